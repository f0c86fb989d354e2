/- Texts of this proof, merged: Szb Szc Szd Sze Szf. -/
import Derived.Test.YthmokdfigjffjaaGreatDoorMai
namespace Go.Proofs.YthmokdfigjffjaaGreatDoor
set_option linter.unusedVariables false
set_option linter.unusedSimpArgs false
open Go.RowKit
noncomputable section

/-- What a function has deferred: the mark of a range over a function; a call. -/
inductive DV where
  | c (j b : Nat)
  | f (g : Nat) (xs cap : List SV)
abbrev Ds := List DV
def DV.den : DV → Deferred
  | .c _ b => { target := .collected b, args := #[] }
  | .f g xs cap => { target := .fn (.func g) (cap.map SV.den).toArray, args := (xs.map SV.den).toArray }
def dsd (ds : Ds) : List Deferred := ds.map DV.den
abbrev KdR := Exit → Ds → Fr → Hp → Strm → Bool
structure RZ where
  call : List Nat → Nat → List SV → Hp → Strm → KvR → Bool
  code : List Nat → Nat → Nat → Bool → Ds → Code → KdR → Fr → Hp → Strm → Bool
/-- A range goes on to be another way. -/
def setSt (ps : List Nat) (L : Hp) (j old new : Nat) : Option Hp :=
  match L[j]? with
  | some ⟨b, u, .i k (.ofNat o) :: cs, .loop ld⟩ => bif Nat.beq o old && !(kvP ps j) then some (L.set j ⟨b, u, .i k (.ofNat new) :: cs, .loop ld⟩) else none
  | _ => none
def killB (ps : List Nat) (L : Hp) (j : Nat) : Option Hp :=
  match L[j]? with
  | some e => bif kvP ps j then none else some (L.set j (voidB e))
  | none => none
def parF : List Nat → List SV → Fr → Fr
  | t :: ps, x :: xs, F => parF ps xs ((t, x) :: F)
  | _, _, F => F
def endZ (ps : List Nat) (j : Nat) (K : KvR) : KdR := fun e _ _ L s =>
  match e with
  | .normal => (match setSt ps L j 1 0 with
    | some L => K (.e (.c .tt)) L s
    | none => false)
  | .ret => (match setSt ps L j 1 2 with
    | some L => K (.e (.c .ff)) L s
    | none => false)
  | .exit id => (match setSt ps L j 1 (id + 3) with
    | some L => K (.e (.c .ff)) L s
    | none => false)
  | _ => false
/-- A round. -/
def yieldZ (r : RZ) (ps : List Nat) (j : Nat) (args : List SV) (L : Hp) (s : Strm) (K : KvR) : Bool :=
  match L[j]? with
  | some ⟨_, _, .i _ (.ofNat 0) :: cs, .loop ld⟩ => bif Nat.beq args.length ld.ps.length && ld.ps.all (fun t => Nat.blt t ld.n) then
      r.code ps ld.f ld.n true [] ld.as_ (fun e ds F L s => match e with
        | .normal => (match ds with
          | [] => (match setSt ps L j 0 1 with
            | some L => r.code ps ld.f ld.n true [] ld.bd (endZ ps j K) F L s
            | none => false)
          | _ => false)
        | _ => false) (parF ld.ps args (unf ld.sh cs)) L s else false
  | _ => false
/-- Is it a call of a range's own function? -/
def ylO (F : Fr) : Op → Option (Nat × List Operand)
  | .call ⟨.value x, as_, _⟩ => (match evO F x with
    | some (.e (.c (.y j _))) => some (j, as_.toList)
    | _ => none)
  | _ => none
/-- A call of a function at hand is deferred. -/
def dfO (F : Fr) : Op → Option DV
  | .defer ⟨.value x, as_, _⟩ => (match calleeS F x, evL F as_.toList with
    | some (g, first, cap), some l => some (.f g (first ++ l) cap)
    | _, _ => none)
  | _ => none
/-- A deferred function's end. -/
def finD (tb : Tbx) (rs : List ResultVar) (K : Hp → Strm → Bool) : KdR := fun e ds F L s =>
  match ds with
  | [] => (match e with
    | .normal => (match resS tb F L rs with
      | some _ => K L s
      | none => false)
    | .ret => (match resS tb F L rs with
      | some _ => K L s
      | none => false)
    | _ => false)
  | _ => false
/-- On the way out: what was deferred. -/
def leaveZ (P : Program) (tb : Tbx) (fo : Fo) (r : RZ) (ps : List Nat) (K : Hp → Strm → Bool) : Ds → Hp → Strm → Bool
  | [], L, s => K L s
  | .c j _ :: ds, L, s => (match L[j]? with
    | some ⟨_, _, _, .defr⟩ => (match killB ps L j with
      | some L' => leaveZ P tb fo r ps K ds L' s
      | none => false)
    | _ => false)
  | .f g xs cap :: ds, L, s => (match P.funcs[g]? with
    | some fn => (match fn.body with
      | some c => bif fnS fo g && Nat.ble (xs ++ cap).length fn.ntmps then r.code ps g fn.ntmps false [] c (finD tb fn.results.toList fun L s => leaveZ P tb fo r ps K ds L s) (argF 0 (xs ++ cap)) L s else false
      | none => false)
    | none => false)
section
variable (tb : Tbx) (fo : Fo) (gl : Gl) (raw : List Nat → Nz → Oper → Fr → Hp → Strm → KvR → Bool) (rt : Nz → Oper → Fr → Hp → Option SV)
noncomputable def opZ (r : RZ) (ps : List Nat) (n : Nz) (o : Oper) (F : Fr) (L : Hp) (s : Strm) (K : KvR) : Bool :=
  match ylO F o.op with
  | some (j, l) => (match evL F l with
    | some args => yieldZ r ps j args L s K
    | none => false)
  | none => opR tb fo gl raw r.call ps n o F L s K
noncomputable def opsZ (r : RZ) (ps : List Nat) (n : Nat) (rd : Bool) (all : List Oper) (Q : Ds → Fr → Hp → Strm → Bool) : List Oper → Ds → Fr → Hp → Strm → Bool
  | [], ds, F, L, s => Q ds F L s
  | o :: l, ds, F, L, s => bif inB n o.dst then (bif ndB o then gdR all F o (fun F => opZ tb fo gl raw r ps ⟨n, dsd ds⟩ o F L s fun v L' s' => opsZ r ps n rd all Q l ds (putF F o.dst v) L' s') (fun F => opsZ r ps n rd all Q l ds (putF F o.dst undefV) L s)
      else bif rd then false else (match o.guard, dfO F o.op with
        | none, some d => opsZ r ps n rd all Q l (d :: ds) (putF F o.dst undefV) L s
        | _, _ => false)) else false
def finZ (P : Program) (r : RZ) (ps : List Nat) (rs : List ResultVar) (K : KvR) : KdR := fun e ds F L s =>
  match e with
  | .normal => leaveZ P tb fo r ps (fun L s => match resS tb F L rs with
      | some [x] => K (.e x) L s
      | some l => K (.t l) L s
      | none => false) ds L s
  | .ret => leaveZ P tb fo r ps (fun L s => match resS tb F L rs with
      | some [x] => K (.e x) L s
      | some l => K (.t l) L s
      | none => false) ds L s
  | _ => false
/-- Behind a range over a function. -/
def leftZ (ps : List Nat) (j : Nat) (ds : Ds) (F : Fr) (K : KdR) (L : Hp) (s : Strm) : Bool :=
  match L[j]? with
  | some ⟨_, _, .i _ (.ofNat st) :: _, .loop _⟩ => (match killB ps L j with
    | some L' => (match st with
      | 0 => K .normal ds F L' s
      | 1 => false
      | 2 => K .ret ds F L' s
      | m + 3 => K (.exit m) ds F L' s)
    | none => false)
  | _ => false
end
section
variable (P : Program) (tb : Tbx) (fo : Fo) (pt : Plt) (gl : Gl) (hk : Nat → Option (List Nat → List SV → Hp → Strm → KvR → Bool)) (raw : List Nat → Nz → Oper → Fr → Hp → Strm → KvR → Bool) (rt : Nz → Oper → Fr → Hp → Option SV)
noncomputable def stepZ (r : RZ) : RZ where
  call := fun ps f xs L s K => match hk f with
    | some h => h ps xs L s K
    | none => match P.funcs[f]? with
    | some fn => (match fn.body with
      | some c => bif Nat.ble xs.length fn.ntmps then r.code ps f fn.ntmps false [] c (finZ tb fo P r ps fn.results.toList K) (argF 0 xs) L s else false
      | none => false)
    | none => false
  code := fun ps f n rd ds c K F L s => match c with
    | .skip => K .normal ds F L s
    | .label _ => K .normal ds F L s
    | .exit i => K (.exit i) ds F L s
    | .ret => K .ret ds F L s
    | .seq x y => r.code ps f n rd ds x (fun e ds F L s => match e with
      | .normal => r.code ps f n rd ds y K F L s
      | e => K e ds F L s) F L s
    | .cond t x y => (match evO F t with
      | some (.e (.c .tt)) => r.code ps f n rd ds x K F L s
      | some (.e (.c .ff)) => r.code ps f n rd ds y K F L s
      | some (.e (.c (.b t))) => bif t then r.code ps f n rd ds x K F L s else r.code ps f n rd ds y K F L s
      | _ => false)
    | .block id x => r.code ps f n rd ds x (fun e ds F L s => match e with
      | .exit i => bif Nat.beq i id then K .normal ds F L s else K (.exit i) ds F L s
      | e => K e ds F L s) F L s
    | .loop x => r.code ps f n rd ds x (fun e ds F L s => match e with
      | .normal => ddM F 0 fun F => r.code ps f n rd ds (.loop x) K F L s
      | e => K e ds F L s) F L s
    | .region id ops draw => bif draw then (match pt f id with
        | some p => (fun qs => bif planAll ops p && ops.toList.all ndB && qs.all (fun j => Nat.blt j L.length) then planR tb fo gl raw rt r.call qs ⟨n, dsd ds⟩ ps ops.toList (fun F L s => K .normal ds F L s) p F L s else false) (preR tb gl rt ⟨n, dsd ds⟩ ops.toList L p F ps)
        | none => false)
      else opsZ tb fo gl raw r ps n rd ops.toList (fun ds F L s => K .normal ds F L s) ops.toList ds F L s
    | .rangeFunc g prs x y => bif rd then false else (match calleeS F g with
      | some (gf, first, cap) => bif fnS fo gf then
          r.call ps gf (first ++ [.e (.c (.y (L.length + 1) (s 1)))] ++ cap) (L ++ [⟨s 0, 0, [], .defr⟩] ++ [⟨s 1, 0, .i .i64 (.ofNat 0) :: cel (flM F 0), .loop ⟨f, n, shp (flM F 0), prs.toList, x, y, s 0⟩⟩]) (tl (tl s)) (fun _ L2 s2 => leftZ ps (L.length + 1) (.c L.length (s 0) :: ds) F K L2 s2)
        else false
      | none => false)
    | _ => false
noncomputable def rz (m : Nat) : RZ := Nat.rec ⟨fun _ _ _ _ _ _ => false, fun _ _ _ _ _ _ _ _ _ _ => false⟩ (fun _ r => stepZ P tb fo pt gl hk raw rt r) m
end
end
end Go.Proofs.YthmokdfigjffjaaGreatDoor

namespace Go.Proofs.YthmokdfigjffjaaGreatDoor
set_option linter.unusedVariables false
set_option linter.unusedSimpArgs false
open Go.RowKit
noncomputable section

/-- A block that is no row becomes another object. -/
theorem St.setO {σ : Hs} {w : World} (h : St σ w) {j : Nat} {e e' : Blk} (he : σ.L[j]? = some e) (hv : ¬ e.void) (hb : e'.b = e.b) (hu : e'.u = e.u) (hT : e'.void ∨ e'.T = e.T) {o : Obj} (hs : e'.sat (w.putObj e.b o)) (hc : ∀ x ∈ e'.cs, x.ok σ.L) :
    St { σ with L := σ.L.set j e' } (w.putObj e.b o) ∧ Ext σ.L (σ.L.set j e') := by
  have hm := List.mem_of_getElem? he
  have hlt := (List.getElem?_eq_some_iff.1 he).1
  have hx : Ext σ.L (σ.L.set j e') := fun i f hf => by
    by_cases q : i = j
    · subst q
      rw [he] at hf
      obtain rfl := Option.some.inj hf
      exact ⟨e', by simp [hlt], hb, hu, hT.imp id fun q => ⟨q, fun q => absurd q hv⟩⟩
    · exact ⟨f, by rw [List.getElem?_set_ne (Ne.symm q)]; exact hf, rfl, rfl, Or.inr ⟨rfl, id⟩⟩
  have hother : ∀ k, k ≠ e.b → (w.putObj e.b o).heap[k]? = w.heap[k]? := fun k hk => World.putObj_heap_other hk
  have hsz : (w.putObj e.b o).heap.size = w.heap.size := World.putObj_size
  refine ⟨⟨fun f hf => ?_, fun f hf x hxx => ?_, h.nd.setV he hb fun q => absurd q hv, fun f hf => ?_, ⟨h.fp.os, h.fp.tape, h.fp.output, by rw [hsz]; exact h.fp.size, fun k hk hn => ?_⟩⟩, hx⟩
  · rcases mem_set hf with rfl | ⟨i, hij, hi⟩
    · exact hs
    · by_cases hb : f.b = e.b
      · rcases h.nd i j f e hi he hij hb with q | q
        · exact Blk.void_sat q _
        · exact absurd q hv
      · exact Blk.keep (h.sat f (List.mem_of_getElem? hi)) (hother _ hb)
  · rcases mem_set hf with rfl | ⟨i, _, hi⟩
    · exact (hc x hxx).ext hx
    · exact (h.ok f (List.mem_of_getElem? hi) x hxx).ext hx
  · rw [hsz]
    rcases mem_set hf with rfl | ⟨i, _, hi⟩
    · rw [hb]; exact h.lt e hm
    · exact h.lt f (List.mem_of_getElem? hi)
  · obtain ⟨g, g1, g2⟩ := set_mem he (e' := e') hb hm
    have hne : k ≠ e.b := fun q => hn (Or.inr ⟨g, g1, by rw [g2, q]⟩)
    rw [hother k hne]
    refine h.fp.block k hk fun q => hn (q.imp id fun ⟨f, hf, hfb⟩ => ?_)
    obtain ⟨g, g1, g2⟩ := set_mem he (e' := e') hb hf
    exact ⟨g, g1, g2.trans hfb⟩
/-- A new object. -/
theorem St.pushO {σ : Hs} {w : World} (h : St σ w) {e : Blk} (hb : e.b = w.heap.size) {o : Obj} (hs : e.sat (w.alloc o)) (hc : ∀ x ∈ e.cs, x.ok σ.L) : St { σ with L := σ.L ++ [e] } (w.alloc o) := by
  have hx := Ext.push σ.L [e]
  refine ⟨fun f hf => ?_, fun f hf x hxx => ?_, h.nd.push fun f hf q => absurd (h.lt f hf) (by omega), fun f hf => ?_, ?_⟩
  · rcases List.mem_append.1 hf with hf | hf
    · exact Blk.keep (h.sat f hf) (Below.heap_alloc _ _ _ (h.lt f hf))
    · obtain rfl := List.mem_singleton.1 hf
      exact hs
  · rcases List.mem_append.1 hf with hf | hf
    · exact (h.ok f hf x hxx).ext hx
    · obtain rfl := List.mem_singleton.1 hf
      exact (hc x hxx).ext hx
  · have hsz : (w.alloc o).heap.size = w.heap.size + 1 := by simp
    rw [hsz]
    rcases List.mem_append.1 hf with hf | hf
    · exact Nat.lt_succ_of_lt (h.lt f hf)
    · obtain rfl := List.mem_singleton.1 hf
      omega
  · refine (h.fp.mono fun i _ hi => ?_).alloc _
    rcases hi with hi | ⟨f, hf, rfl⟩
    · exact Or.inl hi
    · exact Or.inr ⟨f, List.mem_append_left _ hf, rfl⟩
theorem loop_void {b u : Nat} {cs : List CV} {ld : LD} : ¬ (Blk.mk b u cs (.loop ld)).void := fun q => by cases q.1
theorem defr_void {b u : Nat} {cs : List CV} : ¬ (Blk.mk b u cs .defr).void := fun q => by cases q.1
section
variable {P : Program} {σ : Hs} {w : World} {ps : List Nat} {L' : Hp} {j : Nat}
/-- A range's record is so. -/
theorem loop_sat {b u : Nat} {k : IntKind} {m : Int} {cs : List CV} {ld : LD} (h : (Blk.mk b u (.i k m :: cs) (.loop ld)).sat w) :
    ∃ (tmps : Array Value) (fn : Nat), w.heap[b]? = some (.loop ⟨stL m, pdL m, fn, tmps, ld.ps.toArray, ld.as_, ld.bd, ld.db⟩) ∧ tmps.size = ld.n ∧ ∀ t x, look (unf ld.sh cs) t = some x → tmps[t]? = some x.den := by
  obtain ⟨k', st, cs', tmps, fn, h1, h2, h3, h4⟩ := h
  simp only [List.cons.injEq, CV.i.injEq] at h1
  obtain ⟨⟨rfl, rfl⟩, rfl⟩ := h1
  exact ⟨tmps, fn, h2, h3, h4⟩
theorem setSt_ok (hS : St σ w) {o m : Nat} (h : setSt ps σ.L j o m = some L') :
    ∃ (e : Blk) (r : Loop), σ.L[j]? = some e ∧ w.heap[e.b]? = some (.loop r) ∧ r.state = stL (.ofNat o) ∧ r.pending = pdL (.ofNat o) ∧
      St { σ with L := L' } (w.putObj e.b (.loop { r with state := stL (.ofNat m), pending := pdL (.ofNat m) })) ∧ Ext σ.L L' ∧ KpW (some (kvP ps)) σ { σ with L := L' } := by
  unfold setSt at h
  split at h
  · rename_i b u k o' cs ld he
    rcases hb : Nat.beq o' o && !(kvP ps j) with _ | _
    · rw [hb] at h; cases h
    rw [hb] at h
    obtain rfl := Option.some.inj h
    simp only [Bool.and_eq_true, Bool.not_eq_true'] at hb
    obtain rfl := Nat.eq_of_beq_eq_true hb.1
    have hm := List.mem_of_getElem? he
    obtain ⟨tmps, fn, h1, h2, h3⟩ := loop_sat (hS.sat _ hm)
    have hlt := hS.lt _ hm
    have hs := hS.setO he loop_void (e' := ⟨b, u, .i k (.ofNat m) :: cs, .loop ld⟩) rfl rfl (Or.inr rfl) (o := .loop ⟨stL (.ofNat m), pdL (.ofNat m), fn, tmps, ld.ps.toArray, ld.as_, ld.bd, ld.db⟩)
      ⟨k, .ofNat m, cs, tmps, fn, rfl, World.putObj_heap_same hlt, h2, h3⟩ (fun x hx => by
        rcases List.mem_cons.1 hx with rfl | hx
        · trivial
        · exact hS.ok _ hm x (List.mem_cons_of_mem _ hx))
    exact ⟨_, _, he, h1, rfl, rfl, hs.1, hs.2, kp_set he rfl hb.2⟩
  · cases h
theorem kill_ok (hS : St σ w) {e : Blk} (he : σ.L[j]? = some e) (hv : ¬ e.void) (h : killB ps σ.L j = some L') (o : Obj) :
    St { σ with L := L' } (w.putObj e.b o) ∧ Ext σ.L L' ∧ KpW (some (kvP ps)) σ { σ with L := L' } := by
  unfold killB at h
  simp only [he] at h
  rcases hk : kvP ps j with _ | _
  · rw [hk] at h
    obtain rfl := Option.some.inj h
    have := hS.setO he hv (e' := voidB e) (voidB_b e) (voidB_u e) (Or.inl (voidB_void e)) (o := o) (Blk.void_sat (voidB_void e) _) (fun x hx => by rw [(voidB_void e).2] at hx; cases hx)
    exact ⟨this.1, this.2, kp_set he (voidB_b e) hk⟩
  · rw [hk] at h; cases h
/-- What was deferred is known. -/
def DV.ok (L : Hp) : DV → Prop
  | .c j b => ∃ e : Blk, L[j]? = some e ∧ e.b = b
  | .f _ xs cap => ∀ x ∈ xs ++ cap, x.ok L
def DsOk (ds : Ds) (L : Hp) : Prop := ∀ x ∈ ds, x.ok L
theorem DsOk.ext {ds : Ds} {L L' : Hp} (h : DsOk ds L) (k : Ext L L') : DsOk ds L' := fun x hx => by
  have := h x hx
  cases x with
  | c j b =>
    obtain ⟨e, h1, h2⟩ := this
    obtain ⟨e', k1, k2, _⟩ := k _ _ h1
    exact ⟨e', k1, k2.trans h2⟩
  | f g xs cap => exact fun y hy => (this y hy).ext k
end
end
end Go.Proofs.YthmokdfigjffjaaGreatDoor

namespace Go.Proofs.YthmokdfigjffjaaGreatDoor
set_option linter.unusedVariables false
set_option linter.unusedSimpArgs false
open Go.RowKit
noncomputable section

/-- Where a piece of code may end, deferred blocks beside it. -/
def Rd (n : Nat) (Q : Exit → Ds → Fr → Hs → Prop) : Exit → Act → World → Prop
  | .panic _, _, _ => False
  | .outgrown, _, _ => False
  | e, a, w => ∃ F σ ds, FrOk ⟨n, dsd ds⟩ a σ.L F ∧ St σ w ∧ DsOk ds σ.L ∧ Q e ds F σ
def Kz (ps : List Nat) (σ : Hs) (K : KdR) (e : Exit) (ds : Ds) (F : Fr) (σ' : Hs) : Prop := KpW (some (kvP ps)) σ σ' ∧ Ext σ.L σ'.L ∧ ∀ s, K e ds F σ'.L s = true
theorem Kz.trans {ps : List Nat} {σ σ' σ2 : Hs} {K : KdR} {e : Exit} {ds : Ds} {F : Fr} (k1 : KpW (some (kvP ps)) σ σ') (k2 : Ext σ.L σ'.L) (h : Kz ps σ' K e ds F σ2) : Kz ps σ K e ds F σ2 := ⟨k1.trans h.1, k2.trans h.2.1, h.2.2⟩
def CodeZ (P : Program) (gl : Gl) (code : List Nat → Nat → Nat → Bool → Ds → Code → KdR → Fr → Hp → Strm → Bool) : Prop :=
  ∀ ps f (n : Nat) (rd : Bool) (ds : Ds) c (K : KdR) F (σ : Hs), Gd gl σ → DsOk ds σ.L → (∀ s, code ps f n rd ds c K F σ.L s = true) → ∀ (ro : Option Nat) (m : Nat), (rd = false → ro = none) → ∀ a w, FrOk ⟨n, dsd ds⟩ a σ.L F → St σ w → c.wpIn (Fd ro) m P (Rd n (Kz ps σ K)) a w
theorem Rd.step {P : Program} {ro : Option Nat} {m n : Nat} {c : Code} {Q Q' : Exit → Ds → Fr → Hs → Prop} {a : Act} {w : World} (h : c.wpIn (Fd ro) m P (Rd n Q) a w) (hq : ∀ e ds F σ, Q e ds F σ → Q' e ds F σ) : c.wpIn (Fd ro) m P (Rd n Q') a w :=
  wpIn_mono h fun e a' w' he => by
    cases e with
    | panic ch => exact he.elim
    | outgrown => exact he.elim
    | _ => obtain ⟨F', σ', ds, h1, h2, h3, h4⟩ := he; exact ⟨F', σ', ds, h1, h2, h3, hq _ _ _ _ h4⟩
theorem parF_ok {n : Nz} {L : Hp} : ∀ (ps : List Nat) (xs : List SV) (F : Fr) (t : Array Value), (∀ t ∈ ps, t < n.n) → (∀ x ∈ xs, x.ok L) → FrOk n { tmps := t, defers := n.ds } L F →
    FrOk n { tmps := (ps.zip (xs.map SV.den)).foldl (fun tmps (t, a) => tmps.setIfInBounds t a) t, defers := n.ds } L (parF ps xs F)
  | [], _, F, t, _, _, h => by simpa [parF] using h
  | _ :: _, [], F, t, _, _, h => by simpa [parF] using h
  | p :: ps, x :: xs, F, t, hp, hx, h => by
    have := h.put (d := some p) (x := x) (by simpa [inB, Nat.blt_eq] using hp p (List.mem_cons_self ..)) (hx x (List.mem_cons_self ..))
    exact parF_ok ps xs ((p, x) :: F) (t.setIfInBounds p x.den) (fun t ht => hp t (List.mem_cons_of_mem _ ht)) (fun x h => hx x (List.mem_cons_of_mem _ h)) this
section
variable {P : Program} {gl : Gl} {σ : Hs} {w : World} {ps : List Nat} {j : Nat}
theorem end_ok {L2 : Hp} {b m : Nat} {J : Option Code} (hS : St σ w) (hb : ∃ e : Blk, σ.L[j]? = some e ∧ e.b = b) (h : setSt ps σ.L j 1 m = some L2) (hst : stL (.ofNat m) = if J.isNone then .ready else .done) (hpd : pdL (.ofNat m) = J) :
    ∃ w4, (Instr.endRound b J).run P w = .ok (.bool J.isNone) w4 ∧ St { σ with L := L2 } w4 ∧ Ext σ.L L2 ∧ KpW (some (kvP ps)) σ { σ with L := L2 } := by
  obtain ⟨e, r, h1, h2, _, _, h3, h4, h5⟩ := setSt_ok hS h
  obtain ⟨e', h6, rfl⟩ := hb
  rw [h1] at h6
  obtain rfl := Option.some.inj h6
  refine ⟨_, run_endRound J h2, ?_, h4, h5⟩
  rw [← hst, ← hpd]; exact h3
theorem Ext.blk {L L' : Hp} (h : Ext L L') {b : Nat} (hb : ∃ e : Blk, L[j]? = some e ∧ e.b = b) : ∃ e : Blk, L'[j]? = some e ∧ e.b = b := by
  obtain ⟨e, h1, h2⟩ := hb
  obtain ⟨e', k1, k2, _⟩ := h _ _ h1
  exact ⟨e', k1, k2.trans h2⟩
theorem yieldZ_ok {r : RZ} (hz : CodeZ P gl r.code) (hg : Gd gl σ) (hS : St σ w) {args : List SV} {K : KvR} (ha : ∀ x ∈ args, x.ok σ.L) (h : ∀ s, yieldZ r ps j args σ.L s K = true) (ro : Option Nat) (m : Nat) :
    ∃ (e : Blk) (rc : Loop) (tm : Array Value), σ.L[j]? = some e ∧ (Instr.yield e.b (args.map SV.den).toArray).run P w = .ok (.round e.b rc.fn tm rc.assign rc.body) w ∧
      RoundIn (Fd ro) m P e.b rc.fn tm rc.assign rc.body w fun en w' => ∃ v σ', en = .returned v.den ∧ Pst (some (kvP ps)) σ (Ks ps σ K) v σ' w' := by
  have h0 := h fun _ => 0
  unfold yieldZ at h h0
  split at h0 <;> first | (cases h0; done) | skip
  rename_i b u k cs ld he
  simp only [he] at h
  rcases hb : Nat.beq args.length ld.ps.length && ld.ps.all (fun t => Nat.blt t ld.n) with _ | _
  · rw [hb] at h0; cases h0
  simp only [hb, cond_true] at h
  simp only [Bool.and_eq_true, List.all_eq_true, Nat.blt_eq] at hb
  have hlen : args.length = ld.ps.length := Nat.eq_of_beq_eq_true hb.1
  have hm := List.mem_of_getElem? he
  obtain ⟨tmps, fn, h1, h2, h3⟩ := loop_sat (hS.sat _ hm)
  have hcs : ∀ y ∈ cs, y.ok σ.L := fun y hy => hS.ok _ hm y (List.mem_cons_of_mem _ hy)
  refine ⟨_, ⟨stL (.ofNat 0), pdL (.ofNat 0), fn, tmps, ld.ps.toArray, ld.as_, ld.bd, ld.db⟩, _, he, run_yield h1 (by simp [hlen]), ?_⟩
  refine roundIn_of_wpIn (F := Fd ro) trivial ?_
  have hF1 : FrOk ⟨ld.n, dsd []⟩ { tmps := (ld.ps.toArray.zip (args.map SV.den).toArray).foldl (fun tmps (t, a) => tmps.setIfInBounds t a) tmps, defers := [] } σ.L (parF ld.ps args (unf ld.sh cs)) := by
    have := parF_ok (n := ⟨ld.n, dsd []⟩) ld.ps args (unf ld.sh cs) tmps hb.2 ha ⟨h2, rfl, fun t x hx => ⟨h3 t x hx, unf_ok hcs t x hx⟩⟩
    rw [List.zip_toArray, List.foldl_toArray]
    exact this
  have key := hz ps ld.f ld.n true [] ld.as_ _ _ σ hg (fun x hx => by cases hx) h (some b) m (fun q => by cases q) _ w hF1 hS
  refine wpIn_mono key fun en a' w' hp => ?_
  have bad : ∀ {en : Exit} {ds : Ds} {F : Fr} {σ' : Hs} {K' : KdR}, Kz ps σ K' en ds F σ' → (∀ s, K' en ds F σ'.L s = false) → False := fun q hq => by
    have := q.2.2 fun _ => 0
    rw [hq] at this; cases this
  cases en with
  | panic ch => exact hp.elim
  | outgrown => exact hp.elim
  | ret => obtain ⟨F', σ', ds, q1, q2, q3, q4⟩ := hp; exact bad q4 fun _ => rfl
  | exit i => obtain ⟨F', σ', ds, q1, q2, q3, q4⟩ := hp; exact bad q4 fun _ => rfl
  | goto i => obtain ⟨F', σ', ds, q1, q2, q3, q4⟩ := hp; exact bad q4 fun _ => rfl
  | normal =>
    obtain ⟨F', σ', ds, q1, q2, q3, k1, k2, k3⟩ := hp
    cases ds with
    | cons x ds => exact absurd (k3 fun _ => 0) (by simp)
    | nil =>
      simp only at k3
      rcases hset : setSt ps σ'.L j 0 1 with _ | L2
      · rw [hset] at k3; exact absurd (k3 fun _ => 0) (by simp)
      simp only [hset] at k3
      obtain ⟨e2, rc, g1, g2, g3, g4, g5, g6, g7⟩ := setSt_ok q2 hset
      have hbk := Ext.blk (j := j) (b := b) k2 ⟨_, he, rfl⟩
      have hb2 : e2.b = b := by
        obtain ⟨e3, e4, e5⟩ := hbk
        rw [g1] at e4
        obtain rfl := Option.some.inj e4
        exact e5
      subst hb2
      refine ⟨_, run_beginRound g2 g3, ?_⟩
      have hrc : ({ rc with state := .busy } : Loop) = { rc with state := stL (.ofNat 1), pending := pdL (.ofNat 1) } := by
        cases rc
        simp only at g4
        subst g4
        rfl
      rw [hrc]
      have hg2 : Gd gl { σ' with L := L2 } := (hg.kp k1 k2).kp g7 g6
      refine wpIn_mono (hz ps ld.f ld.n true [] ld.bd (endZ ps j K) F' { σ' with L := L2 } hg2 (fun x hx => by cases hx) k3 (some e2.b) m (fun q => by cases q) a' _ (q1.ext g6) g5) fun en a2 w3 hp => ?_
      have fin : ∀ {σ3 : Hs} {L3 : Hp} {J : Option Code} {m : Nat} {v : SV}, St σ3 w3 → KpW (some (kvP ps)) { σ' with L := L2 } σ3 → Ext L2 σ3.L → setSt ps σ3.L j 1 m = some L3 → stL (.ofNat m) = (if J.isNone then .ready else .done) → pdL (.ofNat m) = J → (∀ L, v.ok L) → v.den = .bool J.isNone → (∀ s, K v L3 s = true) →
          ∃ v w4, (Instr.endRound e2.b J).run P w3 = .ok v w4 ∧ ∃ v' σ', Ending.returned v = .returned v'.den ∧ Pst (some (kvP ps)) σ (Ks ps σ K) v' σ' w4 := by
        intro σ3 L3 J m v r1 r2 r3 r4 r5 r6 r7 r8 r9
        obtain ⟨w4, e1, e2, e3, e4⟩ := end_ok (P := P) r1 (Ext.blk r3 (Ext.blk g6 hbk)) r4 r5 r6
        have kk := ((k1.trans g7).trans r2).trans e4
        have ee := ((k2.trans g6).trans r3).trans e3
        exact ⟨_, w4, e1, v, _, by rw [r8], r7 _, ee, e2, kk, kk, ee, r9⟩
      cases en with
      | panic ch => exact hp.elim
      | outgrown => exact hp.elim
      | goto i => obtain ⟨F3, σ3, ds, r1, r2, r3, r4, r5, r6⟩ := hp; exact absurd (r6 fun _ => 0) (by simp [endZ])
      | normal =>
        obtain ⟨F3, σ3, ds, r1, r2, r3, r4, r5, r6⟩ := hp
        simp only [endZ] at r6
        rcases hs3 : setSt ps σ3.L j 1 0 with _ | L3
        · rw [hs3] at r6; exact absurd (r6 fun _ => 0) (by simp)
        simp only [hs3] at r6
        exact fin (J := none) (v := .e (.c .tt)) r2 r4 r5 hs3 rfl rfl (fun _ => trivial) rfl r6
      | ret =>
        obtain ⟨F3, σ3, ds, r1, r2, r3, r4, r5, r6⟩ := hp
        simp only [endZ] at r6
        rcases hs3 : setSt ps σ3.L j 1 2 with _ | L3
        · rw [hs3] at r6; exact absurd (r6 fun _ => 0) (by simp)
        simp only [hs3] at r6
        exact fin (J := some .ret) (v := .e (.c .ff)) r2 r4 r5 hs3 rfl rfl (fun _ => trivial) rfl r6
      | exit i =>
        obtain ⟨F3, σ3, ds, r1, r2, r3, r4, r5, r6⟩ := hp
        simp only [endZ] at r6
        rcases hs3 : setSt ps σ3.L j 1 (i + 3) with _ | L3
        · rw [hs3] at r6; exact absurd (r6 fun _ => 0) (by simp)
        simp only [hs3] at r6
        exact fin (J := some (.exit i)) (v := .e (.c .ff)) r2 r4 r5 hs3 rfl rfl (fun _ => trivial) rfl r6
end
end
end Go.Proofs.YthmokdfigjffjaaGreatDoor

namespace Go.Proofs.YthmokdfigjffjaaGreatDoor
set_option linter.unusedVariables false
set_option linter.unusedSimpArgs false
open Go.RowKit
noncomputable section
section
variable {P : Program} {tb : Tbx} {fo : Fo} {pt : Plt} {gl : Gl} {hk : Nat → Option (List Nat → List SV → Hp → Strm → KvR → Bool)} {raw : List Nat → Nz → Oper → Fr → Hp → Strm → KvR → Bool} {rt : Nz → Oper → Fr → Hp → Option SV} {ps : List Nat} {σ : Hs} {w : World} {a : Act} {F : Fr}
theorem opZ_ok (hc : CxOk P tb fo) (hr : RawOk P gl raw) {r : RZ} (hcall : CallOk P gl r.call) (hz : CodeZ P gl r.code) {n : Nz} (hg : Gd gl σ) (hF : FrOk n a σ.L F) (hS : St σ w) {o : Oper} (hn : ndB o = true) {K : KvR} (h : ∀ s, opZ tb fo gl raw r ps n o F σ.L s K = true) (ro : Option Nat) (m : Nat) {Q : Exit → Act → World → Prop} {N : Act → World → Prop}
    (hN : ∀ v σ' w', Pst (some (kvP ps)) σ (Ks ps σ K) v σ' w' → N (a.put o.dst v.den) w') : o.wpIn (Fd ro) m P a w N Q := by
  have h0 := h fun _ => 0
  unfold opZ at h h0
  rcases hy : ylO F o.op with _ | ⟨j, l⟩
  · simp only [hy] at h
    refine opFd (ndB_ok hn) (Oper.wp_up (opS_ok hc hF hS (opR_ok hcall hr hg (Or.inr rfl) h fun v σ' q => q)) fun a' w' hp => ?_)
    obtain ⟨v, σ', rfl, hp⟩ := hp
    exact hN v σ' w' hp
  · simp only [hy] at h h0
    rcases hl : evL F l with _ | args
    · simp only [hl] at h0; cases h0
    simp only [hl] at h
    obtain ⟨dst, op, ty, pos, after, gu⟩ := o
    simp only at hy
    unfold ylO at hy
    split at hy <;> first | (cases hy; done) | skip
    rename_i x as_ ts
    split at hy <;> first | (cases hy; done) | skip
    rename_i j' b hx
    simp only [Option.some.injEq, Prod.mk.injEq] at hy
    obtain ⟨rfl, rfl⟩ := hy
    have e1 := (evO_ok hF hx).1
    simp only [SV.den, EV.den, CV.den] at e1
    obtain ⟨e, he, hb⟩ : ∃ e : Blk, σ.L[j']? = some e ∧ e.b = b := (evO_ok hF hx).2
    obtain ⟨e', rc, tm, h1, h2, h3⟩ := yieldZ_ok hz hg hS (evL_all hF hl) h ro (m - 1)
    rw [he] at h1
    obtain rfl := Option.some.inj h1
    subst hb
    have hargs : (#[] ++ as_.map a.eval : Array Value) = (args.map SV.den).toArray := by
      apply Array.ext'
      simp [evL_ok hF hl]
    have hrun : (execOp a.eval ⟨dst, .call ⟨.value x, as_, ts⟩, ty, pos, after, gu⟩).run P w = .ok (.round e.b rc.fn tm rc.assign rc.body) w := by
      simp only [execOp, resolve, e1, Deferred.ofValue, Sem.run_bind, Sem.run_pure, Result.andThen_ok, invoke, hargs]
      exact h2
    refine ⟨fun _ _ => trivial, ?_⟩
    rw [Oper.semAt_eq _ _ _ (ndB_ok hn), hrun]
    refine ⟨(fun q => by cases q), h3.mono fun en w' hp => ?_⟩
    obtain ⟨v, σ', rfl, hp⟩ := hp
    exact hN v σ' w' hp
theorem dfO_ok {n : Nz} (hF : FrOk n a σ.L F) {o : Oper} {d : DV} (h : dfO F o.op = some d) : (execOp a.eval o).run P w = .ok (.defer d.den) w ∧ d.ok σ.L := by
  obtain ⟨dst, op, ty, pos, after, gu⟩ := o
  simp only at h
  unfold dfO at h
  split at h <;> first | (cases h; done) | skip
  rename_i x as_ ts
  split at h <;> first | (cases h; done) | skip
  rename_i g first cap l hg hl
  obtain rfl := Option.some.inj h
  have hargs : ((first.map SV.den).toArray ++ as_.map a.eval : Array Value) = ((first ++ l).map SV.den).toArray := by
    apply Array.ext'
    simp [evL_ok hF hl]
  refine ⟨?_, fun y hy => ?_⟩
  · simp only [execOp, resolve, calleeS_ok hF hg, Deferred.ofValue, Sem.run_bind, Sem.run_pure, Result.andThen_ok, hargs]
    rfl
  · rcases List.mem_append.1 hy with hy | hy
    · rcases List.mem_append.1 hy with hy | hy
      · exact (calleeS_all hF hg).1 y hy
      · exact evL_all hF hl y hy
    · exact (calleeS_all hF hg).2 y hy
def Kq (ps : List Nat) (σ : Hs) (Q : Ds → Fr → Hp → Strm → Bool) (ds : Ds) (F : Fr) (σ' : Hs) : Prop := KpW (some (kvP ps)) σ σ' ∧ Ext σ.L σ'.L ∧ ∀ s, Q ds F σ'.L s = true
theorem opsZ_ok (hc : CxOk P tb fo) (hr : RawOk P gl raw) {r : RZ} (hcall : CallOk P gl r.call) (hz : CodeZ P gl r.code) {all : List Oper} {Q : Ds → Fr → Hp → Strm → Bool} {n : Nat} {rd : Bool} {σ0 : Hs} {Q' : Exit → Ds → Fr → Hs → Prop} (hg0 : Gd gl σ0) (hQ : ∀ ds F σ, Kq ps σ0 Q ds F σ → Q' .normal ds F σ) (ro : Option Nat) (m : Nat) (hro : rd = false → ro = none) :
    ∀ (l : List Oper) (k : Nat), all.drop k = l → ∀ (ds : Ds) (a : Act) (w : World) (F : Fr) (σ : Hs), DsOk ds σ.L → FrOk ⟨n, dsd ds⟩ a σ.L F → St σ w → KpW (some (kvP ps)) σ0 σ → Ext σ0.L σ.L → (∀ s, opsZ tb fo gl raw r ps n rd all Q l ds F σ.L s = true) →
    wpOpsIn (Fd ro) m P all.toArray (Rd n Q') (List.range' k l.length) a w
  | [], k, _, ds, a, w, F, σ, hds, hF, hS, hk, hx, h => ⟨F, σ, ds, hF, hS, hds, hQ _ _ _ ⟨hk, hx, h⟩⟩
  | o :: l, k, hd, ds, a, w, F, σ, hds, hF, hS, hk, hx, h => by
    have hko : all[k]? = some o := by
      have := congrArg (·[0]?) hd
      simpa using this
    have hdr : all.drop (k + 1) = l := by rw [← List.drop_drop, hd]; rfl
    have h0 := h fun _ => 0
    simp only [opsZ] at h h0
    rcases hb : inB n o.dst with _ | _
    · rw [hb] at h0; cases h0
    simp only [hb, cond_true] at h h0
    simp only [List.length_cons, List.range'_succ, wpOpsIn, List.getElem?_toArray, hko]
    rcases hn : ndB o with _ | _
    · simp only [hn, cond_false] at h h0
      cases rd with
      | true => simp at h0
      | false =>
        obtain rfl := hro rfl
        simp only [cond_false] at h h0
        split at h0 <;> first | (cases h0; done) | skip
        rename_i d hgu hdf
        simp only [hgu, hdf] at h
        obtain ⟨e1, e2⟩ := dfO_ok (P := P) (w := w) hF hdf
        rw [if_pos (by unfold Region.wanted; rw [hgu])]
        refine ⟨fun _ _ => trivial, ?_⟩
        have hro : (Fd none).round = none := rfl
        rw [hro, Oper.semAt_none, e1]
        refine opsZ_ok hc hr hcall hz hg0 hQ none m (fun _ => rfl) l (k + 1) hdr (d :: ds) _ _ _ σ (fun x hx => ?_) ?_ hS hk hx h
        · rcases List.mem_cons.1 hx with rfl | hx
          · exact e2
          · exact hds x hx
        · have h1 : FrOk ⟨n, dsd (d :: ds)⟩ { a with defers := d.den :: a.defers } σ.L F := ⟨hF.size, by simp [dsd, hF.defers], hF.at_⟩
          exact h1.put hb (undef_ok _)
    simp only [hn, cond_true] at h
    obtain ⟨F', hF', _, h⟩ := gdS_ok hF (gdR_ok h ⟨fun _ => 0⟩)
    rcases h with ⟨hw, h⟩ | ⟨hw, h⟩
    · rw [if_pos hw]
      refine opZ_ok hc hr hcall hz (hg0.kp hk hx) hF' hS hn h ro m fun v σ' w' hp => ?_
      exact opsZ_ok hc hr hcall hz hg0 hQ ro m hro l (k + 1) hdr ds _ _ _ σ' (hds.ext hp.ext) ((hF'.ext hp.ext).put hb hp.ok) hp.st (hk.trans hp.k.1) (hx.trans hp.k.2.1) hp.k.2.2
    · rw [if_neg (by rw [hw]; simp)]
      exact ⟨fun _ _ => trivial, opsZ_ok hc hr hcall hz hg0 hQ ro m hro l (k + 1) hdr ds _ _ _ σ hds (hF'.put hb (undef_ok _)) hS hk hx h⟩
/-- A deferred function's end. -/
theorem finD_ok (hc : CxOk P tb fo) {fn : Func} {K : Hp → Strm → Bool} {R : Ending → World → Prop} {e : Exit} {a' : Act} {w' : World} (h : Rd fn.ntmps (Kz ps σ (finD tb fn.results.toList K)) e a' w')
    (hR : ∀ σ' w' v, St σ' w' → KpW (some (kvP ps)) σ σ' → Ext σ.L σ'.L → (∀ s, K σ'.L s = true) → R (.returned v) w') : bodyPost P fn R e a' w' := by
  have fin : ∀ F' σ', FrOk ⟨fn.ntmps, dsd []⟩ a' σ'.L F' → St σ' w' → KpW (some (kvP ps)) σ σ' → Ext σ.L σ'.L → (∀ s, (match resS tb F' σ'.L fn.results.toList with | some _ => K σ'.L s | none => false) = true) →
      a'.defers = [] ∧ ∃ v, (results fn a'.tmps).run P w' = .ok v w' ∧ R (.returned v) w' := by
    intro F' σ' h1 h2 k1 k2 k3
    refine fin_ok hc.tb h1 h2 ?_
    rcases hres : resS tb F' σ'.L fn.results.toList with _ | l
    · simp only [hres] at k3; exact absurd (k3 fun _ => 0) (by simp)
    simp only [hres] at k3
    split
    · exact ⟨fun w3 hS3 => hR σ' w3 _ hS3 k1 k2 k3⟩
    · exact ⟨fun w3 hS3 => hR σ' w3 _ hS3 k1 k2 k3⟩
    · rename_i hx; cases hx
  cases e with
  | normal =>
    obtain ⟨F', σ', ds, h1, h2, h3, k1, k2, k3⟩ := h
    cases ds with
    | nil => exact fin F' σ' h1 h2 k1 k2 k3
    | cons x ds => exact absurd (k3 fun _ => 0) (by simp [finD])
  | ret =>
    obtain ⟨F', σ', ds, h1, h2, h3, k1, k2, k3⟩ := h
    cases ds with
    | nil => exact fin F' σ' h1 h2 k1 k2 k3
    | cons x ds => exact absurd (k3 fun _ => 0) (by simp [finD])
  | panic ch => exact h.elim
  | outgrown => exact h.elim
  | exit i =>
    obtain ⟨F', σ', ds, h1, h2, h3, k1, k2, k3⟩ := h
    cases ds <;> exact absurd (k3 fun _ => 0) (by simp [finD])
  | goto i =>
    obtain ⟨F', σ', ds, h1, h2, h3, k1, k2, k3⟩ := h
    cases ds <;> exact absurd (k3 fun _ => 0) (by simp [finD])
theorem leaveZ_ok (hc : CxOk P tb fo) {r : RZ} (hz : CodeZ P gl r.code) {fn : Func} {tmps : Array Value} {R : Ending → World → Prop} {m : Nat} {K : Hp → Strm → Bool} : ∀ {ds : Ds} {σ : Hs} {w : World}, Gd gl σ → St σ w → DsOk ds σ.L → (∀ s, leaveZ P tb fo r ps K ds σ.L s = true) →
    (∀ σ' w', St σ' w' → Ext σ.L σ'.L → KpW (some (kvP ps)) σ σ' → (∀ s, K σ'.L s = true) → LeavesIn (Fd none) m P fn tmps R [] .returning w') → LeavesInM (Fd none) m P fn tmps R (dsd ds) .returning w
  | [], σ, w, hg, hS, _, h, hk => hk σ w hS (Ext.refl _) (KpW.refl _ _) h
  | .c j b :: ds, σ, w, hg, hS, hd, h, hk => by
    have h0 := h fun _ => 0
    simp only [leaveZ] at h h0
    split at h0 <;> first | (cases h0; done) | skip
    rename_i b' u' cs' he
    simp only [he] at h
    split at h0 <;> first | (cases h0; done) | skip
    rename_i L2 hkill
    simp only [hkill] at h
    obtain ⟨e, h1, h2⟩ : ∃ e : Blk, σ.L[j]? = some e ∧ e.b = b := hd _ (List.mem_cons_self ..)
    rw [he] at h1
    obtain rfl := Option.some.inj h1
    simp only at h2
    subst h2
    have hs : w.heap[b']? = some (.deferred (some [])) := hS.sat _ (List.mem_of_getElem? he)
    obtain ⟨k1, k2, k3⟩ := kill_ok hS he defr_void hkill (.deferred none)
    refine ⟨(by simp), Or.inl ⟨b', _, rfl, run_takeDeferred hs, ?_⟩⟩
    exact leaveZ_ok hc hz (σ := { σ with L := L2 }) (hg.kp k3 k2) k1 (DsOk.ext (fun x hx => hd x (List.mem_cons_of_mem _ hx)) k2) h fun σ' w' q1 q2 q3 q4 => hk σ' w' q1 (k2.trans q2) (k3.trans q3) q4
  | .f g xs cap :: ds, σ, w, hg, hS, hd, h, hk => by
    have h0 := h fun _ => 0
    simp only [leaveZ] at h h0
    rcases hf : P.funcs[g]? with _ | fn'
    · simp only [hf] at h0; cases h0
    rcases hb : fn'.body with _ | c
    · simp only [hf, hb] at h0; cases h0
    rcases hq : fnS fo g && Nat.ble (xs ++ cap).length fn'.ntmps with _ | _
    · simp only [hf, hb, hq] at h0; cases h0
    simp only [hf, hb, hq, cond_true] at h
    simp only [Bool.and_eq_true] at hq
    obtain ⟨fn2, f1, f2, f3⟩ := hc.enter hq.1
    rw [hf] at f1
    obtain rfl := Option.some.inj f1
    have hn' : fn'.body.isNone = false := by rw [Option.isNone_eq_false_iff]; exact f2
    have hok : ∀ x ∈ xs ++ cap, x.ok σ.L := hd _ (List.mem_cons_self ..)
    have hinv : (invoke (.fn (.func g) (cap.map SV.den).toArray) (xs.map SV.den).toArray).run P w = .ok (.enter g ((xs ++ cap).map SV.den).toArray) w := by
      simp only [invoke, callFunc, Sem.run_bind, run_program, Result.andThen_ok, hf, f3, hn', Bool.false_eq_true, if_false, Sem.run_pure]
      congr 2
      apply Array.ext'
      simp
    refine ⟨(by simp), Or.inr ⟨(fun q => by cases q), .func g, (cap.map SV.den).toArray, g, _, rfl, hinv, (fun _ _ => trivial), ?_⟩⟩
    refine CallsDIn.mono (callsDIn_of_wp (R := fun e w' => (∃ v, e = .returned v) ∧ LeavesInM (Fd none) m P fn tmps R (dsd ds) .returning w') hf hb trivial (wpIn_mono (hz ps g fn'.ntmps false [] c _ (argF 0 (xs ++ cap)) σ hg (fun x hx => by cases hx) h none (m - 1) (fun _ => rfl) _ w (fr0 (xs ++ cap) (Nat.le_of_ble_eq_true hq.2) hok) hS) fun e a' w' he => finD_ok hc he fun σ' w' v q1 q2 q3 q4 => ⟨⟨v, rfl⟩, ?_⟩) rfl) ?_
    · exact leaveZ_ok hc hz (hg.kp q2 q3) q1 (DsOk.ext (fun x hx => hd x (List.mem_cons_of_mem _ hx)) q3) q4 fun σ2 w2 p1 p2 p3 p4 => hk σ2 w2 p1 (q3.trans p2) (q2.trans p3) p4
    · rintro e u w' ⟨rfl, ⟨v, rfl⟩, hL⟩
      exact hL
/-- A function's end. -/
theorem finZ_ok (hc : CxOk P tb fo) {r : RZ} (hz : CodeZ P gl r.code) (hg : Gd gl σ) {fn : Func} {K : KvR} {m : Nat} {e : Exit} {a' : Act} {w' : World} (h : Rd fn.ntmps (Kz ps σ (finZ tb fo P r ps fn.results.toList K)) e a' w') :
    bodyPostM (Fd none) m P fn (fun e w' => ∃ v σ', e = .returned v.den ∧ Pst (some (kvP ps)) σ (Ks ps σ K) v σ' w') e a' w' := by
  have fin : ∀ F' σ' ds, FrOk ⟨fn.ntmps, dsd ds⟩ a' σ'.L F' → St σ' w' → DsOk ds σ'.L → KpW (some (kvP ps)) σ σ' → Ext σ.L σ'.L →
      (∀ s, leaveZ P tb fo r ps (fun L s => match resS tb F' L fn.results.toList with | some [x] => K (.e x) L s | some l => K (.t l) L s | none => false) ds σ'.L s = true) →
      LeavesInM (Fd none) m P fn a'.tmps (fun e w' => ∃ v σ', e = .returned v.den ∧ Pst (some (kvP ps)) σ (Ks ps σ K) v σ' w') a'.defers .returning w' := by
    intro F' σ' ds h1 h2 h3 k1 k2 k3
    rw [h1.defers]
    refine leaveZ_ok hc hz (hg.kp k1 k2) h2 h3 k3 fun σ2 w2 hS2 hx hkp k3 => ?_
    have hF2 : FrOk ⟨fn.ntmps, dsd ds⟩ a' σ2.L F' := h1.ext hx
    have hall := fun {l : List EV} (hl : resS tb F' σ2.L fn.results.toList = some l) => resS_all hc.tb hF2 hS2 hl
    refine (fin_ok (fn := fn) (R := fun e w' => ∃ v' σ', e = .returned v'.den ∧ Pst (some (kvP ps)) σ (Ks ps σ K) v' σ' w') hc.tb hF2 hS2 ?_).2
    have kk := k1.trans hkp
    have ee := k2.trans hx
    rcases hres : resS tb F' σ2.L fn.results.toList with _ | l
    · simp only [hres] at k3; exact absurd (k3 fun _ => 0) (by simp)
    simp only [hres] at k3
    have hok := hall hres
    split
    · rename_i x hx
      cases hx
      exact ⟨fun w3 hS3 => ⟨.e x, _, rfl, hok x (List.mem_singleton.2 rfl), ee, hS3, kk, kk, ee, k3⟩⟩
    · rename_i l' hne hx
      cases hx
      refine ⟨fun w3 hS3 => ⟨.t l, _, rfl, hok, ee, hS3, kk, kk, ee, fun s => ?_⟩⟩
      have := k3 s
      split at this
      · rename_i x hx; cases hx; exact absurd rfl (hne x)
      · rename_i hx; cases hx; exact this
      · cases this
    · rename_i hx; cases hx
  cases e with
  | normal => obtain ⟨F', σ', ds, h1, h2, h3, k1, k2, k3⟩ := h; exact fin F' σ' ds h1 h2 h3 k1 k2 k3
  | ret => obtain ⟨F', σ', ds, h1, h2, h3, k1, k2, k3⟩ := h; exact fin F' σ' ds h1 h2 h3 k1 k2 k3
  | panic ch => exact h.elim
  | outgrown => exact h.elim
  | exit i => obtain ⟨F', σ', ds, h1, h2, h3, k1, k2, k3⟩ := h; exact absurd (k3 fun _ => 0) (by simp [finZ])
  | goto i => obtain ⟨F', σ', ds, h1, h2, h3, k1, k2, k3⟩ := h; exact absurd (k3 fun _ => 0) (by simp [finZ])
/-- A range over a function. -/
theorem rangeZ_ok (hc : CxOk P tb fo) {r : RZ} (hcall : CallOk P gl r.call) (hg : Gd gl σ) {f n : Nat} {ds : Ds} (hd : DsOk ds σ.L) (hF : FrOk ⟨n, dsd ds⟩ a σ.L F) (hS : St σ w) {g : Operand} {prs : Array Tmp} {x y : Code} {K : KdR} {gf : Nat} {first cap : List SV} (hcal : calleeS F g = some (gf, first, cap)) (hf : fnS fo gf = true) (m : Nat)
    (h : ∀ s : Strm, r.call ps gf (first ++ [SV.e (.c (.y (σ.L.length + 1) (s 1)))] ++ cap) (σ.L ++ [⟨s 0, 0, [], .defr⟩] ++ [⟨s 1, 0, .i .i64 (.ofNat 0) :: cel (flM F 0), .loop ⟨f, n, shp (flM F 0), prs.toList, x, y, s 0⟩⟩]) (tl (tl s)) (fun _ L2 s2 => leftZ ps (σ.L.length + 1) (.c σ.L.length (s 0) :: ds) F K L2 s2) = true) :
    (Code.rangeFunc g prs x y).wpIn (Fd none) m P (Rd n (Kz ps σ K)) a w := by
  obtain ⟨fn', f1, f2, f3⟩ := hc.enter hf
  have hn' : fn'.body.isNone = false := by rw [Option.isNone_eq_false_iff]; exact f2
  refine wpIn_rangeFunc fun fn _ => ?_
  have st1 := hS.pushO (e := ⟨w.heap.size, 0, [], .defr⟩) (o := .deferred (some [])) rfl (World.alloc_heap_new ..) (fun x hx => by cases hx)
  have hsz : (w.alloc (.deferred (some []))).heap.size = w.heap.size + 1 := by simp
  have hcel : ∀ y ∈ cel (flM F 0), y.ok σ.L := cel_ok fun t x hx => (hF.at_ t x (look_flM F 0 t x hx).2).2
  have st2 := st1.pushO (e := ⟨w.heap.size + 1, 0, .i .i64 (.ofNat 0) :: cel (flM F 0), .loop ⟨f, n, shp (flM F 0), prs.toList, x, y, w.heap.size⟩⟩) (o := .loop { state := .ready, pending := none, fn := fn, tmps := a.tmps, params := prs, assign := x, body := y, defers := w.heap.size }) hsz.symm
    ⟨.i64, .ofNat 0, cel (flM F 0), a.tmps, fn, rfl, by rw [← hsz]; exact World.alloc_heap_new .., hF.size, fun t x hx => by rw [unf_cel] at hx; exact (hF.at_ t x (look_flM F 0 t x hx).2).1⟩
    (fun x hx => by
      rcases List.mem_cons.1 hx with rfl | hx
      · trivial
      · exact (hcel x hx).ext (Ext.push _ _))
  simp only at st2
  have hent : (Instr.enterLoop fn a.tmps prs x y (Fd none).round).run P w = .ok (w.heap.size + 1, [{ target := .collected w.heap.size, args := #[] }]) ((w.alloc (.deferred (some []))).alloc (.loop { state := .ready, pending := none, fn := fn, tmps := a.tmps, params := prs, assign := x, body := y, defers := w.heap.size })) := run_enterLoop_outer ..
  generalize (w.alloc (.deferred (some []))).alloc (.loop { state := .ready, pending := none, fn := fn, tmps := a.tmps, params := prs, assign := x, body := y, defers := w.heap.size }) = W at st2 hent
  have hb := hS.fp.size
  have kp1 : KpW (some (kvP ps)) σ ⟨σ.L ++ [⟨w.heap.size, 0, [], .defr⟩], σ.S, σ.w0⟩ := kp_new hb
  have kp2 := kp1.trans (kp_new (kv := kvP ps) (σ := ⟨σ.L ++ [⟨w.heap.size, 0, [], .defr⟩], σ.S, σ.w0⟩) (e := ⟨w.heap.size + 1, 0, .i .i64 (.ofNat 0) :: cel (flM F 0), .loop ⟨f, n, shp (flM F 0), prs.toList, x, y, w.heap.size⟩⟩) (Nat.le_succ_of_le hb))
  have ex2 : Ext σ.L (σ.L ++ [⟨w.heap.size, 0, [], .defr⟩] ++ [⟨w.heap.size + 1, 0, .i .i64 (.ofNat 0) :: cel (flM F 0), .loop ⟨f, n, shp (flM F 0), prs.toList, x, y, w.heap.size⟩⟩]) := (Ext.push _ _).trans (Ext.push _ _)
  have hh : ∀ s : Strm, r.call ps gf (first ++ [SV.e (.c (.y (σ.L.length + 1) (w.heap.size + 1)))] ++ cap) (σ.L ++ [⟨w.heap.size, 0, [], .defr⟩] ++ [⟨w.heap.size + 1, 0, .i .i64 (.ofNat 0) :: cel (flM F 0), .loop ⟨f, n, shp (flM F 0), prs.toList, x, y, w.heap.size⟩⟩]) s (fun _ L2 s2 => leftZ ps (σ.L.length + 1) (.c σ.L.length w.heap.size :: ds) F K L2 s2) = true := fun s => h (cns w.heap.size (cns (w.heap.size + 1) s))
  have h2 := (hcall ps gf (first ++ [SV.e (.c (.y (σ.L.length + 1) (w.heap.size + 1)))] ++ cap) ⟨σ.L ++ [⟨w.heap.size, 0, [], .defr⟩] ++ [⟨w.heap.size + 1, 0, .i .i64 (.ofNat 0) :: cel (flM F 0), .loop ⟨f, n, shp (flM F 0), prs.toList, x, y, w.heap.size⟩⟩], σ.S, σ.w0⟩ (fun _ L2 s2 => leftZ ps (σ.L.length + 1) (.c σ.L.length w.heap.size :: ds) F K L2 s2) (hg.kp kp2 ex2) hh).out _ st2 (fun y hy => by
    rcases List.mem_append.1 hy with hy | hy
    · rcases List.mem_append.1 hy with hy | hy
      · exact ((calleeS_all hF hcal).1 y hy).ext ex2
      · obtain rfl := List.mem_singleton.1 hy
        exact ⟨⟨w.heap.size + 1, 0, .i .i64 (.ofNat 0) :: cel (flM F 0), .loop ⟨f, n, shp (flM F 0), prs.toList, x, y, w.heap.size⟩⟩, by simp, rfl⟩
    · exact ((calleeS_all hF hcal).2 y hy).ext ex2)
  have hres : (resolve a.eval (rangeCall g (w.heap.size + 1)) 0).run P W = .ok ⟨.fn (.func gf) (cap.map SV.den).toArray, (first.map SV.den).toArray ++ #[.func (.yield (w.heap.size + 1)) #[] #[]]⟩ W := by
    simp only [resolve, calleeS_ok hF hcal, Deferred.ofValue, Sem.run_pure]
    simp [Act.eval]
  have hinv : (invoke (.fn (.func gf) (cap.map SV.den).toArray) ((first.map SV.den).toArray ++ #[.func (.yield (w.heap.size + 1)) #[] #[]])).run P W = .ok (.enter gf ((first ++ [SV.e (.c (.y (σ.L.length + 1) (w.heap.size + 1)))] ++ cap).map SV.den).toArray) W := by
    simp only [invoke, callFunc, Sem.run_bind, run_program, Result.andThen_ok, f1, f3, hn', Bool.false_eq_true, if_false, Sem.run_pure]
    congr 2
    apply Array.ext'
    simp [SV.den, EV.den, CV.den]
  suffices key : Calls P gf ((first ++ [SV.e (.c (.y (σ.L.length + 1) (w.heap.size + 1)))] ++ cap).map SV.den).toArray W (rangePost (Fd none) m P (w.heap.size + 1) (Rd n (Kz ps σ K)) { a with defers := [{ target := .collected w.heap.size, args := #[] }] ++ a.defers }) from
    ⟨_, _, W, _, W, gf, _, W, hent, hres, (fun _ _ => trivial), hinv, (fun q => by cases q), callsFd.2 key⟩
  refine Calls.mono h2 ?_
  rintro e w3 ⟨v, σ3, rfl, hp⟩
  have hl : ∀ s, leftZ ps (σ.L.length + 1) (.c σ.L.length w.heap.size :: ds) F K σ3.L s = true := hp.k.2.2
  have hl0 := hl fun _ => 0
  unfold leftZ at hl hl0
  split at hl0 <;> first | (cases hl0; done) | skip
  rename_i b u k st cs ld he
  simp only [he] at hl hl0
  obtain ⟨e', g1, g2⟩ := Ext.blk (j := σ.L.length + 1) (b := w.heap.size + 1) hp.ext ⟨⟨w.heap.size + 1, 0, .i .i64 (.ofNat 0) :: cel (flM F 0), .loop ⟨f, n, shp (flM F 0), prs.toList, x, y, w.heap.size⟩⟩, by simp, rfl⟩
  rw [he] at g1
  obtain rfl := Option.some.inj g1
  simp only at g2
  subst g2
  rcases hkl : killB ps σ3.L (σ.L.length + 1) with _ | L4
  · rw [hkl] at hl0; cases hl0
  simp only [hkl] at hl hl0
  obtain ⟨tmps, fn2, r1, r2, r3⟩ := loop_sat (hp.st.sat _ (List.mem_of_getElem? he))
  have hne : stL (.ofNat st) ≠ .busy := fun q => by
    match st, q, hl0 with
    | 1, _, hl0 => cases hl0
  refine ⟨_, _, run_endLoop r1 hne, ?_⟩
  obtain ⟨s1, s2, s3⟩ := kill_ok (ps := ps) hp.st he loop_void hkl (.loop { (⟨stL (.ofNat st), pdL (.ofNat st), fn2, tmps, ld.ps.toArray, ld.as_, ld.bd, ld.db⟩ : Loop) with state := .exhausted })
  have kk := (kp2.trans hp.k.1).trans s3
  have ee := (ex2.trans hp.k.2.1).trans s2
  have hd4 : DsOk (.c σ.L.length w.heap.size :: ds) L4 := fun z hz => by
    rcases List.mem_cons.1 hz with rfl | hz
    · exact Ext.blk (((Ext.push _ _).trans hp.k.2.1).trans s2) (j := σ.L.length) ⟨⟨w.heap.size, 0, [], .defr⟩, by simp, rfl⟩
    · exact (hd.ext ee) z hz
  have hF4 : FrOk ⟨n, dsd (.c σ.L.length w.heap.size :: ds)⟩ { a with defers := [{ target := .collected w.heap.size, args := #[] }] ++ a.defers } L4 F :=
    ⟨hF.size, by simp [dsd, DV.den, hF.defers], fun t x hx => ⟨(hF.at_ t x hx).1, (hF.at_ t x hx).2.ext ee⟩⟩
  match st, hl with
  | 0, hl => exact ⟨F, _, _, hF4, s1, hd4, kk, ee, hl⟩
  | 1, hl => exact absurd (hl fun _ => 0) (by simp)
  | 2, hl => exact wpIn_ret ⟨F, _, _, hF4, s1, hd4, kk, ee, hl⟩
  | m + 3, hl => exact wpIn_exit ⟨F, _, _, hF4, s1, hd4, kk, ee, hl⟩
end
end
end Go.Proofs.YthmokdfigjffjaaGreatDoor

namespace Go.Proofs.YthmokdfigjffjaaGreatDoor
set_option linter.unusedVariables false
set_option linter.unusedSimpArgs false
open Go.RowKit
noncomputable section
section
variable {P : Program} {tb : Tbx} {fo : Fo} {pt : Plt} {gl : Gl} {hk : Nat → Option (List Nat → List SV → Hp → Strm → KvR → Bool)} {raw : List Nat → Nz → Oper → Fr → Hp → Strm → KvR → Bool} {rt : Nz → Oper → Fr → Hp → Option SV}
/-- Behind a region. -/
def Ke (ps : List Nat) (σ : Hs) (K : KdR) (e : Exit) (ds : Ds) (F : Fr) (σ' : Hs) : Prop := e = .normal ∧ KpW (some (kvP ps)) σ σ' ∧ Ext σ.L σ'.L ∧ ∀ s, K .normal ds F σ'.L s = true
theorem Ke.of {ps : List Nat} {σ σ' : Hs} {K : KdR} {ds : Ds} {F : Fr} (h : Kr ps σ (fun F L s => K .normal ds F L s) F σ') : Ke ps σ K .normal ds F σ' := ⟨rfl, h.1, h.2.1, h.2.2⟩
theorem Ke.kz {ps : List Nat} {σ σ' : Hs} {K : KdR} {ds : Ds} {e : Exit} {F : Fr} (h : Ke ps σ K e ds F σ') : Kz ps σ K e ds F σ' := by
  obtain ⟨rfl, h1, h2, h3⟩ := h
  exact ⟨h1, h2, h3⟩
/-- A drawn region's end. -/
theorem Rz.rd {ps : List Nat} {n : Nat} {ds : Ds} {σ : Hs} {K : KdR} {e : Exit} {a : Act} {w : World} (hd : DsOk ds σ.L) (h : Rz ⟨n, dsd ds⟩ (fun e F σ' => Ke ps σ K e ds F σ') e a w) : Rd n (Ke ps σ K) e a w := by
  cases e with
  | panic ch => exact h.elim
  | outgrown => exact h.elim
  | _ => obtain ⟨F, σ', h1, h2, h3⟩ := h; exact ⟨F, σ', ds, h1, h2, hd.ext h3.2.2.1, h3⟩
theorem rz_ok (hc : CxOk P tb fo) (hr : RawOk P gl raw) (hrt : RtOk P rt) (hh : HookOk P gl hk) : ∀ m, CallOk P gl (rz P tb fo pt gl hk raw rt m).call ∧ CodeZ P gl (rz P tb fo pt gl hk raw rt m).code := by
  intro m
  induction m using Nat.strongRecOn with
  | _ m ih =>
  cases m with
  | zero => exact ⟨fun ps g as_ σ K _ h => absurd (h fun _ => 0) (by simp [rz]), fun ps f n rd ds c K F σ _ _ h => absurd (h fun _ => 0) (by simp [rz])⟩
  | succ m =>
  have ihm := ih m (Nat.lt_succ_self m)
  refine ⟨fun ps f as_ σ K hg h => ⟨fun w hS ho => ?_⟩, fun ps f n rd ds c K F σ hg hd h ro mm hro a w hF hS => ?_⟩
  · have h0 := h fun _ => 0
    change ∀ s, (stepZ P tb fo pt gl hk raw rt (rz P tb fo pt gl hk raw rt m)).call ps f as_ σ.L s K = true at h
    change (stepZ P tb fo pt gl hk raw rt (rz P tb fo pt gl hk raw rt m)).call ps f as_ σ.L (fun _ => 0) K = true at h0
    simp only [stepZ] at h h0
    rcases hhk : hk f with _ | hf'
    case some =>
      simp only [hhk] at h
      exact (hh f hf' hhk ps as_ σ K hg h).out w hS ho
    simp only [hhk] at h h0
    rcases hf : P.funcs[f]? with _ | fn
    · simp only [hf] at h0; cases h0
    rcases hb : fn.body with _ | c
    · simp only [hf, hb] at h0; cases h0
    rcases hl : Nat.ble as_.length fn.ntmps with _ | _
    · simp only [hf, hb, hl] at h0; cases h0
    simp only [hf, hb, hl, cond_true] at h
    refine (callsFd (ro := none) (m := 0)).1 (callsIn_of_wp_marks hf hb trivial (wpIn_mono (ihm.2 ps f fn.ntmps false [] c _ (argF 0 as_) σ hg (fun x hx => by cases hx) h none 0 (fun _ => rfl) _ w (fr0 as_ (Nat.le_of_ble_eq_true hl) ho) hS) fun e a' w' he => finZ_ok hc ihm.2 hg he) rfl)
  · have h0 := h fun _ => 0
    change ∀ s, (stepZ P tb fo pt gl hk raw rt (rz P tb fo pt gl hk raw rt m)).code ps f n rd ds c K F σ.L s = true at h
    change (stepZ P tb fo pt gl hk raw rt (rz P tb fo pt gl hk raw rt m)).code ps f n rd ds c K F σ.L (fun _ => 0) = true at h0
    cases c with
    | skip => exact wpIn_skip ⟨F, σ, ds, hF, hS, hd, KpW.refl _ _, Ext.refl _, h⟩
    | label l => exact wpIn_label ⟨F, σ, ds, hF, hS, hd, KpW.refl _ _, Ext.refl _, h⟩
    | exit i => exact wpIn_exit ⟨F, σ, ds, hF, hS, hd, KpW.refl _ _, Ext.refl _, h⟩
    | ret => exact wpIn_ret ⟨F, σ, ds, hF, hS, hd, KpW.refl _ _, Ext.refl _, h⟩
    | seq x y =>
      refine wpIn_seq (wpIn_mono (ihm.2 ps f n rd ds x _ F σ hg hd h ro mm hro a w hF hS) fun e a' w' he => ?_)
      cases e with
      | normal =>
        obtain ⟨F', σ', ds', h1, h2, h3, k1, k2, k3⟩ := he
        exact Rd.step (ihm.2 ps f n rd ds' y K F' σ' (hg.kp k1 k2) h3 k3 ro mm hro a' w' h1 h2) fun e ds F σ2 q => q.trans k1 k2
      | panic ch => exact he.elim
      | outgrown => exact he.elim
      | _ => exact he
    | cond t x y =>
      simp only [stepZ] at h h0
      split at h0
      · rename_i hb
        simp only [hb] at h
        exact wpIn_cond_true ((evO_ok hF hb).1) (ihm.2 ps f n rd ds x K F σ hg hd h ro mm hro a w hF hS)
      · rename_i hb
        simp only [hb] at h
        exact wpIn_cond_false ((evO_ok hF hb).1) (ihm.2 ps f n rd ds y K F σ hg hd h ro mm hro a w hF hS)
      · rename_i b hb
        simp only [hb] at h
        refine wpIn_cond_split (t := b) ((evO_ok hF hb).1) (fun q => ?_) (fun q => ?_)
        · subst q; exact ihm.2 ps f n rd ds x K F σ hg hd h ro mm hro a w hF hS
        · subst q; exact ihm.2 ps f n rd ds y K F σ hg hd h ro mm hro a w hF hS
      · cases h0
    | block id x =>
      refine wpIn_block (wpIn_mono (ihm.2 ps f n rd ds x _ F σ hg hd h ro mm hro a w hF hS) fun e a' w' he => ?_)
      cases e with
      | exit i =>
        obtain ⟨F', σ', ds', h1, h2, h3, k1, k2, k3⟩ := he
        simp only [Exit.inBlock]
        rcases hb : Nat.beq i id with _ | _
        · simp only [hb, cond_false] at k3
          have : i ≠ id := fun q => by subst q; simp at hb
          rw [if_neg this]
          exact ⟨F', σ', ds', h1, h2, h3, k1, k2, k3⟩
        · simp only [hb, cond_true] at k3
          have : i = id := by simpa using hb
          rw [if_pos this]
          exact ⟨F', σ', ds', h1, h2, h3, k1, k2, k3⟩
      | panic ch => exact he.elim
      | outgrown => exact he.elim
      | _ => exact he
    | loop x =>
      refine wpIn_loop_ghost (fun k a w => ∃ F' σ' ds', FrOk ⟨n, dsd ds'⟩ a σ'.L F' ∧ St σ' w ∧ DsOk ds' σ'.L ∧ KpW (some (kvP ps)) σ σ' ∧ Ext σ.L σ'.L ∧ k ≤ m + 1 ∧ ∀ s, (rz P tb fo pt gl hk raw rt k).code ps f n rd ds' (.loop x) K F' σ'.L s = true) (m + 1) ⟨F, σ, ds, hF, hS, hd, KpW.refl _ _, Ext.refl _, Nat.le_refl _, h⟩ ?_
      rintro k a w ⟨F1, σ1, ds1, hF1, hS1, hd1, k1, k2, hkm, h⟩
      cases k with
      | zero => exact absurd (h fun _ => 0) (by simp [rz])
      | succ k =>
        change ∀ s, (stepZ P tb fo pt gl hk raw rt (rz P tb fo pt gl hk raw rt k)).code ps f n rd ds1 (.loop x) K F1 σ1.L s = true at h
        refine wpIn_mono ((ih k (by omega)).2 ps f n rd ds1 x _ F1 σ1 (hg.kp k1 k2) hd1 h ro mm hro a w hF1 hS1) fun e a' w' he => ?_
        cases e with
        | normal =>
          obtain ⟨F', σ', ds', h1, h2, h3, k3, k4, k5⟩ := he
          exact ⟨k, Nat.lt_succ_self k, ddF F' 0, σ', ds', h1.dd, h2, h3, k1.trans k3, k2.trans k4, by omega, fun s => by have := k5 s; simp only [ddM_eq] at this; exact this⟩
        | panic ch => exact he.elim
        | outgrown => exact he.elim
        | _ =>
          obtain ⟨F', σ', ds', h1, h2, h3, k3, k4, k5⟩ := he
          exact ⟨F', σ', ds', h1, h2, h3, k1.trans k3, k2.trans k4, k5⟩
    | region id ops draw =>
      simp only [stepZ] at h h0
      refine Rd.step (Q := Ke ps σ K) ?_ fun e ds F σ q => q.kz
      cases draw with
      | true =>
        simp only [cond_true] at h h0
        rcases hp : pt f id with _ | p
        · simp only [hp] at h0; cases h0
        simp only [hp] at h h0
        rcases hq : planAll ops p && ops.toList.all ndB && (preR tb gl rt ⟨n, dsd ds⟩ ops.toList σ.L p F ps).all (fun j => Nat.blt j σ.L.length) with _ | _
        · simp only [hq] at h0; cases h0
        simp only [hq, cond_true] at h
        simp only [Bool.and_eq_true, List.all_eq_true, Nat.blt_eq] at hq
        obtain ⟨⟨hq1, hq2⟩, hq3⟩ := hq
        have key := reg_any (Q := fun e F σ' => Ke ps σ K e ds F σ') hc p (kvP (preR tb gl rt ⟨n, dsd ds⟩ ops.toList σ.L p F ps)) (fun j hj => hq3 j (kvP_mem.1 hj)) hq1 (planR_ok hc ihm.1 hr hrt (fun j hj => kvP_mem.2 (preR_sub p F ps j (kvP_mem.1 hj))) hg (fun F' σ' q => Ke.of q) p F σ h (KpW.refl _ _) (Ext.refl _)) hF hS
        exact wpIn_mono (wpIn_region_any hc.mx (anyFd (List.all_eq_true.2 hq2) rz_out _ _ _ _ key)) fun e a' w' q => Rz.rd hd q
      | false =>
        simp only [cond_false] at h
        refine wpIn_region ?_
        have := opsZ_ok hc hr ihm.1 ihm.2 (all := ops.toList) (Q' := Ke ps σ K) hg (fun ds F' σ' q => ⟨rfl, q.1, q.2.1, q.2.2⟩) ro mm hro ops.toList 0 rfl ds a w F σ hd hF hS (KpW.refl _ _) (Ext.refl _) h
        rw [List.range_eq_range']
        simpa using this
    | rangeFunc g prs x y =>
      simp only [stepZ] at h h0
      cases rd with
      | true => simp at h0
      | false =>
        obtain rfl := hro rfl
        simp only [cond_false] at h h0
        rcases hcal : calleeS F g with _ | ⟨gf, first, cap⟩
        · simp only [hcal] at h0; cases h0
        simp only [hcal] at h h0
        rcases hf : fnS fo gf with _ | _
        · simp only [hf] at h0; cases h0
        simp only [hf, cond_true] at h
        exact rangeZ_ok hc ihm.1 hg hd hF hS hcal hf mm h
    | _ => simp only [stepZ] at h0; cases h0
end
end
end Go.Proofs.YthmokdfigjffjaaGreatDoor
