/- Texts of this proof, merged: Sye Syf Syg Sza. -/
import Derived.Test.YthmokdfigjffjaaGreatDoorMah
import Derived.RangeFuncLeaves
import Derived.RangeFuncRecord
import Derived.OrdersIn
import Derived.Sort.LoopGhostIn
namespace Go.Proofs.YthmokdfigjffjaaGreatDoor
set_option linter.unusedVariables false
set_option linter.unusedSimpArgs false
open Go.RowKit
open Go.ChangeMaps (setBlock)
open Go.WideMaps (KeyLaw)
noncomputable section

def bytesB (P : Program) (E : TypeId) : Bool := match P.info? E with
  | some i => Nat.ble i.bytes 65536
  | none => false
theorem bytesB_ok {P : Program} {E : TypeId} (h : bytesB P E = true) : ∃ i, P.info? E = some i ∧ i.bytes ≤ 65536 := by
  unfold bytesB at h
  split at h
  · rename_i i hi; exact ⟨i, hi, by simpa using h⟩
  · cases h
/-- A slice to which nothing is appended. -/
def same0 : SV → Bool
  | .e (.c (.s _ _ _ l c)) => Nat.ble l c
  | .e (.c (.gs ..)) => true
  | _ => false
def xAppend (P : Program) (tb : Tbx) (ps : List Nat) (F : Fr) (L : Hp) (s : Strm) (K : KvR) : List Operand → List TypeId → Bool
  | [x, y], [t, tx] => (match tbl tb t, tbl tb tx, evO F x, evO F y with
    | some ⟨.slice E, _, _⟩, some ⟨.slice _, _, _⟩, some d, some sy => (match tbl tb E with
      | some r => (match srcR L r.size sy with
        | some (m, news) => bif Nat.beq m 0 && same0 d then K d L s else bif Nat.beq r.zero.length r.size && bytesB P E then appR ps r.size L s K m news d else false
        | none => false)
      | none => false)
    | _, _, _, _ => false)
  | _, _ => false
/-- Cells stored into a block. -/
def stoR (ps : List Nat) (L : Hp) (j o : Nat) (vs : List CV) : Option Hp :=
  match L[j]? with
  | some e => bif e.T.isC && !(kvP ps j) then (match setN e.cs o vs with
    | some cs => some (L.set j (mkB e cs))
    | none => none) else none
  | none => none
def dstR : SV → Option (Nat × Nat × Nat)
  | .e (.c (.s j _ o l _)) => some (j, o, l)
  | .e (.c (.gs j _ o _ l _ _)) => some (j, o, l)
  | _ => none
def xCopy (tb : Tbx) (ps : List Nat) (F : Fr) (L : Hp) (s : Strm) (K : KvR) : List Operand → List TypeId → Bool
  | [x, y], [t, tx] => (match tbl tb t, tbl tb tx, evO F x, evO F y with
    | some ⟨.slice E, _, _⟩, some ⟨.slice _, _, _⟩, some d, some sy => (match tbl tb E, dstR d, dstR sy with
      | some r, some (j, o, l), some (j2, o2, l2) => (match cellsR L j2 o2 (bif Nat.ble l2 l then l2 * r.size else l * r.size) with
        | some vs => (match stoR ps L j o vs with
          | some L' => K (cI .i64 (bif Nat.ble l2 l then l2 else l)) L' s
          | none => false)
        | none => false)
      | _, _, _ => false)
    | _, _, _, _ => false)
  | _, _ => false
def xClear (tb : Tbx) (ps : List Nat) (F : Fr) (L : Hp) (s : Strm) (K : KvR) : List Operand → List TypeId → Bool
  | [x], [t] => (match tbl tb t, evO F x with
    | some ⟨.slice E, _, _⟩, some d => (match tbl tb E, dstR d with
      | some r, some (j, o, l) => bif Nat.beq l 0 then K undefV L s else bif Nat.beq r.zero.length r.size then (match stoR ps L j o (repN l r.zero) with
        | some L' => K undefV L' s
        | none => false) else false
      | _, _ => false)
    | _, _ => false)
  | _, _ => false
/-- A map's block. -/
def mapB (L : Hp) (j : Nat) : Option (Nat × Nat × List CV) :=
  match L[j]? with
  | some ⟨_, _, cs, .map ks vs⟩ => some (ks, vs, cs)
  | _ => none
def setMB (L : Hp) (j : Nat) (cs : List CV) : Option Hp :=
  match L[j]? with
  | some e => some (L.set j (mkB e cs))
  | none => none
def xDelete (P : Program) (tb : Tbx) (kl : List Nat) (ps : List Nat) (F : Fr) (L : Hp) (s : Strm) (K : KvR) : List Operand → List TypeId → Bool
  | [x, y], [t, k'] => (match tbl tb t, evO F x, evO F y with
    | some ⟨.map k _, _, _⟩, some (.e (.c (.m j _))), some key => (match mapB L j with
      | some (ks, vs, cs) => bif Nat.beq k k' && !(kvP ps j) then (match svC ks key with
        | some kc => (match delM P kl k ks vs cs kc key.den with
          | some cs' => (match setMB L j cs' with
            | some L' => K undefV L' s
            | none => false)
          | none => false)
        | none => false) else false
      | none => false)
    | _, _, _ => false)
  | _, _ => false
def xLen (tb : Tbx) (F : Fr) (L : Hp) (s : Strm) (K : KvR) : List Operand → List TypeId → Bool
  | [x], [t] => (match tbl tb t, evO F x with
    | some ⟨.map _ _, _, _⟩, some (.e (.c (.m j _))) => (match mapB L j with
      | some (ks, vs, cs) => K (cI .i64 (entsOf ks vs cs).length) L s
      | none => false)
    | some ⟨.map _ _, _, _⟩, some (.e (.c (.v (.map none)))) => K (cI .i64 0) L s
    | _, _ => false)
  | _, _ => false
def xCap (tb : Tbx) (F : Fr) (L : Hp) (s : Strm) (K : KvR) : List Operand → List TypeId → Bool
  | [x], [t] => (match tbl tb t, evO F x with
    | some ⟨.slice _, _, _⟩, some (.e (.c (.s _ _ _ _ c))) => K (cI .i64 c) L s
    | some ⟨.slice _, _, _⟩, some (.e (.c (.v (.slice none _ c)))) => K (cI .i64 c) L s
    | _, _ => false)
  | _, _ => false
def xUpdate (P : Program) (tb : Tbx) (kl : List Nat) (ps : List Nat) (F : Fr) (L : Hp) (s : Strm) (K : KvR) (t : TypeId) (m k x : Operand) : Bool :=
  match tbl tb t, evO F m, evO F k, evO F x with
  | some ⟨.map kt _, _, _⟩, some (.e (.c (.m j _))), some key, some v => (match mapB L j with
    | some (ks, vs, cs) => bif !(kvP ps j) then (match svC ks key, svC vs v with
      | some kc, some vc => (match updM P kl kt ks vs cs kc vc key.den with
        | some cs' => (match setMB L j cs' with
          | some L' => K undefV L' s
          | none => false)
        | none => false)
      | _, _ => false) else false
    | none => false)
  | _, _, _, _ => false
def xMakeMap (tb : Tbx) (L : Hp) (s : Strm) (K : KvR) (t : TypeId) : Option Operand → Bool
  | none => (match tbl tb t with
    | some ⟨.map k e, _, _⟩ => (match tbl tb k, tbl tb e with
      | some rk, some re => K (.e (.c (.m L.length (s 0)))) (L ++ [⟨s 0, 0, [], .map (szC rk) (szC re)⟩]) (tl s)
      | _, _ => false)
    | _ => false)
  | some _ => false
def xMakeSlice (P : Program) (tb : Tbx) (F : Fr) (L : Hp) (s : Strm) (K : KvR) (t : TypeId) (l c : Operand) : Bool :=
  match tbl tb t, evO F l, evO F c with
  | some ⟨.slice E, _, _⟩, some (.e (.c (.i _ (.ofNat l)))), some (.e (.c (.i _ (.ofNat c)))) => (match tbl tb E with
    | some r => bif Nat.beq r.zero.length r.size && bytesB P E && Nat.ble l c && Nat.ble c 1048576 then K (.e (.c (.s L.length (s 0) 0 l c))) (L ++ [⟨s 0, 0, repN c r.zero, .obj E⟩]) (tl s) else false
    | none => false)
  | _, _, _ => false
/-- Cells that are bytes. -/
def bytesC : List CV → Option (List UInt8)
  | [] => some []
  | .i .u8 n :: l => (match bytesC l with
    | some r => some (UInt8.ofNat n.toNat :: r)
    | none => none)
  | _ => none
noncomputable def xConvert (tb : Tbx) (F : Fr) (L : Hp) (s : Strm) (K : KvR) (t d : TypeId) (x : Operand) : Bool :=
  match tbl tb t, tbl tb d, evO F x with
  | some ⟨.slice e, _, _⟩, some ⟨.str, _, _⟩, some y => (match tbl tb e with
    | some ⟨.int .u8, _, _⟩ => (match srcR L 1 y with
      | some (_, cs) => (match bytesC cs with
        | some bs => forceV (.e (.c (.v (.string ⟨⟨bs⟩⟩)))) fun v => K v L s
        | none => false)
      | none => false)
    | _ => false)
  | _, _, _ => false
def natO (F : Fr) (x : Operand) : Option Nat := match evO F x with
  | some (.e (.c (.i _ (.ofNat n)))) => some n
  | _ => none
/-- The part of a slice that begins where it begins, with a capacity of its own. -/
def xSlice3 (tb : Tbx) (F : Fr) (L : Hp) (s : Strm) (K : KvR) (t : TypeId) (x : Operand) (lo hi : Option Operand) (mx : Operand) : Bool :=
  match tbl tb t, evO F x, optI F lo, hi with
  | some ⟨.slice e, _, _⟩, some (.e (.c (.s j b o _ c))), some l, some hi => bif decide (l.getD 0 = 0) then (match natO F hi, natO F mx, tbl tb e with
    | some h, some m, some _ => bif Nat.ble h m && Nat.ble m c then K (.e (.c (.s j b o h m))) L s else false
    | _, _, _ => false) else false
  | some ⟨.slice e, _, _⟩, some (.e (.c (.gs j b o _ _ k _))), some l, some hi => bif decide (l.getD 0 = 0) then (match natO F hi, natO F mx, tbl tb e with
    | some h, some m, some _ => bif Nat.ble h m && Nat.ble m k then K (.e (.c (.s j b o h m))) L s else false
    | _, _, _ => false) else false
  | _, _, _, _ => false
/-- Operations that reckon with what is at hand. -/
def valP (F : Fr) : Op → Option SV
  | .binOp op _ x y _ => match evO F x, evO F y with
    | some (.e (.c (.i k a))), some (.e (.c (.i k' (.ofNat m)))) => bif isSh op then shS op k a (.ofNat m) else (bif Nat.beq m 0 then none else bif kEq k k' then intS op k a (.ofNat m) true else none)
    | _, _ => none
  | _ => none
def rtX : Nz → Oper → Fr → Hp → Option SV := fun _ o F _ => valP F o.op
noncomputable def rawX (P : Program) (tb : Tbx) (kl : List Nat) : List Nat → Nz → Oper → Fr → Hp → Strm → KvR → Bool := fun ps _ o F L s K =>
  match o.op with
  | .call ⟨.builtin .append, az, ts⟩ => xAppend P tb ps F L s K az.toList ts.toList
  | .call ⟨.builtin .copy, az, ts⟩ => xCopy tb ps F L s K az.toList ts.toList
  | .call ⟨.builtin .clear, az, ts⟩ => xClear tb ps F L s K az.toList ts.toList
  | .call ⟨.builtin .delete, az, ts⟩ => xDelete P tb kl ps F L s K az.toList ts.toList
  | .call ⟨.builtin .len, az, ts⟩ => xLen tb F L s K az.toList ts.toList
  | .call ⟨.builtin .cap, az, ts⟩ => xCap tb F L s K az.toList ts.toList
  | .lookup t x i c => (match tbl tb t, evO F x, evO F i with
    | some ⟨.map k e, _, _⟩, some (.e (.c m)), some key => (match lookW P kl L k e c key m with
      | some v => K v L s
      | none => false)
    | _, _, _ => false)
  | .mapUpdate t m k x => xUpdate P tb kl ps F L s K t m k x
  | .makeMap t r => xMakeMap tb L s K t r
  | .makeSlice t l c => xMakeSlice P tb F L s K t l c
  | .convert t d x => xConvert tb F L s K t d x
  | .slice t x lo hi (some mx) => xSlice3 tb F L s K t x lo hi mx
  | .binOp p t x y g => (match valP F (.binOp p t x y g) with
    | some v => forceV v fun v => K v L s
    | none => false)
  | _ => false
end
end Go.Proofs.YthmokdfigjffjaaGreatDoor

namespace Go.Proofs.YthmokdfigjffjaaGreatDoor
set_option linter.unusedVariables false
set_option linter.unusedSimpArgs false
open Go.RowKit
open Go.ChangeMaps (setBlock)
open Go.WideMaps (KeyLaw)
noncomputable section
section
variable {P : Program} {tb : Tbx} {kl ps : List Nat} {n : Nz} {F : Fr} {σ : Hs} {K : KvR}
def Got (P : Program) (ps : List Nat) (n : Nz) (o : Oper) (F : Fr) (σ : Hs) (K : KvR) : Prop := ∀ a w, FrOk n a σ.L F → St σ w → ∃ v σ' w', ((execOp a.eval o).run P w = .ok (.value v.den) w' ∨ (v = undefV ∧ (execOp a.eval o).run P w = .ok .skip w')) ∧ Pst (some (kvP ps)) σ (Ks ps σ K) v σ' w'
theorem raw_of {o : Oper} (h : Got P ps n o F σ K) : RawN P n o F (some (kvP ps)) σ (Ks ps σ K) := ⟨fun a w hF hS => by
  obtain ⟨v, σ', w', h1, h2⟩ := h a w hF hS
  rcases h1 with h1 | ⟨rfl, h1⟩
  · rw [Oper.wp, h1]; exact ⟨v, σ', rfl, h2⟩
  · rw [Oper.wp, h1]; exact ⟨undefV, σ', rfl, h2⟩⟩
theorem Pst.same {w : World} {v : SV} (hv : v.ok σ.L) (hS : St σ w) (hK : ∀ s, K v σ.L s = true) : Pst (some (kvP ps)) σ (Ks ps σ K) v σ w := ⟨hv, Ext.refl _, hS, KpW.refl _ _, KpW.refl _ _, Ext.refl _, hK⟩
theorem stoR_ok {w : World} (hS : St σ w) {j o b : Nat} {vs : List CV} {L' : Hp} (h : stoR ps σ.L j o vs = some L') (hj : ∃ e : Blk, σ.L[j]? = some e ∧ e.b = b ∧ e.u = 0) (hv : ∀ x ∈ vs, x.ok σ.L) :
    (storeCells ⟨b, o, none⟩ (vs.map CV.den)).run P w = .ok () (stW w b o (vs.map CV.den)) ∧ St { σ with L := L' } (stW w b o (vs.map CV.den)) ∧ Ext σ.L L' ∧ KpW (some (kvP ps)) σ ⟨L', σ.S, σ.w0⟩ := by
  obtain ⟨e, he, rfl, hu⟩ := hj
  unfold stoR at h
  simp only [he] at h
  rcases hc : e.T.isC && !(kvP ps j) with _ | _
  · rw [hc] at h; cases h
  simp only [hc, cond_true] at h
  simp only [Bool.and_eq_true, Bool.not_eq_true'] at hc
  split at h <;> first | (cases h; done) | skip
  rename_i cs hs
  obtain rfl := Option.some.inj h
  obtain ⟨s1, s2, s3⟩ := setN_ok hs
  have hm := List.mem_of_getElem? he
  have hst := hS.store he hc.1 hs hv
  have hoff : e.u + o = o := by rw [hu, Nat.zero_add]
  rw [hoff] at hst
  refine ⟨?_, by rw [mkB_eq]; exact hst, by rw [mkB_eq]; exact Ext.set he s2, by rw [mkB_eq]; exact kp_set he rfl hc.2⟩
  have := run_storeCells_cv (P := P) (b := e.b) (u := o) (vs.map CV.den) 0 w (fun v hv' => by obtain ⟨x, hx, rfl⟩ := List.mem_map.1 hv'; exact one_den (hv x hx)) (fun k hk => by
    have hk' : o + k < e.cs.length := by simp at hk; omega
    have := Blk.cell (hS.sat e hm) hc.1 (k := o + k) (List.getElem?_eq_getElem hk')
    rw [hu, Nat.zero_add] at this
    rw [Nat.add_zero]
    exact ⟨by rw [this.1]; rfl, this.2⟩)
  simpa using this
theorem dstR_ok {d : SV} {j o l : Nat} (h : dstR d = some (j, o, l)) {L : Hp} (hd : d.ok L) : ∃ b c, d.den = .slice (some ⟨b, o, none⟩) l c ∧ ∃ e : Blk, L[j]? = some e ∧ e.b = b ∧ e.u = 0 := by
  unfold dstR at h
  split at h <;> first | (cases h; done) | skip
  · cases h; exact ⟨_, _, rfl, hd⟩
  · cases h; obtain ⟨e, q1, q2, q3, _⟩ := hd; exact ⟨_, _, rfl, e, q1, q2, q3⟩
theorem asz {α : Type} {az : Array α} {l : List α} (h : az.toList = l) : az = l.toArray := by apply Array.ext'; simpa using h
theorem xAppend_ok (hT : TbOk P tb) {dst : Option Tmp} {az : Array Operand} {ts : Array TypeId} {ty : TypeId} {pos : String} {after : Array Edge} {g : Option (Nat × Bool)}
    (h : ∀ s, xAppend P tb ps F σ.L s K az.toList ts.toList = true) : Got P ps n ⟨dst, .call ⟨.builtin .append, az, ts⟩, ty, pos, after, g⟩ F σ K := by
  intro a w hF hS
  have h0 := h fun _ => 0
  unfold xAppend at h h0
  split at h0 <;> first | (cases h0; done) | skip
  rename_i x y t tx hxy htt
  obtain rfl := asz hxy
  obtain rfl := asz htt
  simp only at h h0
  split at h0 <;> first | (cases h0; done) | skip
  rename_i E sz z e' sz' z' d sy h1 h2 h3 h4
  simp only [h1, h2, h3, h4] at h
  split at h0 <;> first | (cases h0; done) | skip
  rename_i r hr
  simp only [hr] at h
  split at h0 <;> first | (cases h0; done) | skip
  rename_i m news hsrc
  simp only [hsrc] at h
  obtain ⟨e1, d1⟩ := evO_ok hF h3
  obtain ⟨e2, d2⟩ := evO_ok hF h4
  obtain ⟨s1, s2⟩ := srcR_ok (P := P) hS (und_slice (tbl_d hT h2)) hsrc d2
  have hrun : ∀ v w', (Builtin.append_ #[t, tx] ty #[d.den, sy.den]).run P w = .ok v w' → (execOp a.eval ⟨dst, .call ⟨.builtin .append, [x, y].toArray, [t, tx].toArray⟩, ty, pos, after, g⟩).run P w = .ok (.value v) w' := fun v w' hq => by
    unfold execOp
    simp only [resolve, invoke, builtin, Sem.run_bind, Sem.run_pure, Result.andThen_ok, List.map_toArray, List.map_cons, List.map_nil, e1, e2, hq]
  rcases hz0 : Nat.beq m 0 && same0 d with _ | _
  · simp only [hz0, cond_false] at h h0
    rcases hb : Nat.beq r.zero.length r.size && bytesB P E with _ | _
    · rw [hb] at h0; cases h0
    simp only [hb, cond_true] at h
    simp only [Bool.and_eq_true] at hb
    obtain ⟨v, σ', w', q1, q2⟩ := appR_ok (ty := ty) hT hS (und_slice (tbl_d hT h1)) hr hb.1 (bytesB_ok hb.2) s1 s2 d1 h
    exact ⟨v, σ', w', Or.inl (hrun _ _ q1), q2⟩
  · simp only [hz0, cond_true] at h
    simp only [Bool.and_eq_true] at hz0
    obtain rfl : m = 0 := Nat.eq_of_beq_eq_true hz0.1
    refine ⟨d, σ, w, Or.inl (hrun _ _ ?_), Pst.same d1 hS h⟩
    have hn0 : news = [] := List.eq_nil_of_length_eq_zero (by have := s1.newsLen; simpa using this)
    subst hn0
    obtain ⟨i, hi, hsz, _⟩ := vr_info (tbl_ok hT hr)
    rw [← hsz] at s1
    have key : ∀ b o l c, l ≤ c → d.den = .slice (some ⟨b, o, none⟩) l c → (Builtin.append_ #[t, tx] ty #[d.den, sy.den]).run P w = .ok d.den w := fun b o l c hle hd => by
      have := app_room (w := w) (ty := ty) (news := []) (und_slice (tbl_d hT h1)) hi (b := b) (o := o) (l := l) (c := c) s1 (by omega) (fun j hj => by cases hj)
      rw [hd]; exact this
    have hs0 := hz0.2
    unfold same0 at hs0
    split at hs0
    · exact key _ _ _ _ (by simpa using hs0) rfl
    · obtain ⟨_, _, _, _, _, q⟩ := d1
      exact key _ _ _ _ (by omega) rfl
    · cases hs0
theorem xCopy_ok (hT : TbOk P tb) {dst : Option Tmp} {az : Array Operand} {ts : Array TypeId} {ty : TypeId} {pos : String} {after : Array Edge} {g : Option (Nat × Bool)}
    (h : ∀ s, xCopy tb ps F σ.L s K az.toList ts.toList = true) : Got P ps n ⟨dst, .call ⟨.builtin .copy, az, ts⟩, ty, pos, after, g⟩ F σ K := by
  intro a w hF hS
  have h0 := h fun _ => 0
  unfold xCopy at h h0
  split at h0 <;> first | (cases h0; done) | skip
  rename_i x y t tx hxy htt
  obtain rfl := asz hxy
  obtain rfl := asz htt
  simp only at h h0
  split at h0 <;> first | (cases h0; done) | skip
  rename_i E sz z e' sz' z' d sy h1 h2 h3 h4
  simp only [h1, h2, h3, h4] at h
  split at h0 <;> first | (cases h0; done) | skip
  rename_i r j o l j2 o2 l2 hr hd1 hd2
  simp only [hr, hd1, hd2] at h
  split at h0 <;> first | (cases h0; done) | skip
  rename_i vs hvs
  simp only [hvs] at h
  split at h0 <;> first | (cases h0; done) | skip
  rename_i L' hL
  simp only [hL] at h
  obtain ⟨e1, d1⟩ := evO_ok hF h3
  obtain ⟨e2, d2⟩ := evO_ok hF h4
  obtain ⟨b, c, q1, q2⟩ := dstR_ok hd1 d1
  obtain ⟨b2, c2, q3, q4⟩ := dstR_ok hd2 d2
  obtain ⟨c1, c3, c4⟩ := cellsR_ok hS hvs q4
  obtain ⟨s1, s2, s3, s4⟩ := stoR_ok (P := P) hS hL q2 c3
  have hmin : Nat.min l2 l = (bif Nat.ble l2 l then l2 else l) := by
    rcases hb : Nat.ble l2 l with _ | _
    · have : ¬ l2 ≤ l := fun q => by have := Nat.ble_eq_true_of_le q; rw [hb] at this; cases this
      exact Nat.min_eq_right (by omega)
    · have : l2 ≤ l := Nat.le_of_ble_eq_true hb
      exact Nat.min_eq_left this
  have hlen : (bif Nat.ble l2 l then l2 * r.size else l * r.size) = (bif Nat.ble l2 l then l2 else l) * r.size := by cases Nat.ble l2 l <;> rfl
  rw [hlen, ← hmin] at c1
  have hfc : (Builtin.firstCells r.size (Nat.min l2 l) sy.den).run P w = .ok (vs.map CV.den).toArray w := by
    rw [q3]
    refine run_firstCells_some w r.size (Nat.min l2 l) ⟨b2, o2, none⟩ l2 c2 _ (by rw [List.length_map]; exact c1) fun k v hv => ?_
    rw [List.getElem?_map] at hv
    rcases hkk : vs[k]? with _ | y
    · rw [hkk] at hv; cases hv
    rw [hkk] at hv
    obtain rfl : y.den = v := by simpa using hv
    have := c4 k y hkk
    cases k with
    | zero => simpa [Addr.add] using this
    | succ k => simpa [Addr.add] using this
  refine ⟨cI .i64 ((bif Nat.ble l2 l then l2 else l : Nat) : Int), ⟨L', σ.S, σ.w0⟩, _, Or.inl ?_, trivial, s3, s2, s4, s4, s3, fun s => ?_⟩
  · have hlo : (Builtin.lenOf sy.den).run P w = .ok l2 w := by rw [q3]; rfl
    unfold execOp
    simp only [resolve, invoke, builtin, Sem.run_bind, Sem.run_pure, Result.andThen_ok, List.map_toArray, List.map_cons, List.map_nil, e1, e2]
    rw [hmin] at hfc
    simp only [Builtin.copy_, List.getElem?_toArray, List.getElem?_cons_zero, List.getElem?_cons_succ, Sem.run_bind, run_underlying (und_slice (tbl_d hT h1)), Result.andThen_ok, q1, hlo, run_sizeOf (tbl_ok hT hr), hmin, hfc, s1, Sem.run_pure, goInt]
    rfl
  · have := h s
    cases hb : Nat.ble l2 l <;> rw [hb] at this <;> exact this
theorem xClear_ok (hT : TbOk P tb) {dst : Option Tmp} {az : Array Operand} {ts : Array TypeId} {ty : TypeId} {pos : String} {after : Array Edge} {g : Option (Nat × Bool)}
    (h : ∀ s, xClear tb ps F σ.L s K az.toList ts.toList = true) : Got P ps n ⟨dst, .call ⟨.builtin .clear, az, ts⟩, ty, pos, after, g⟩ F σ K := by
  intro a w hF hS
  have h0 := h fun _ => 0
  unfold xClear at h h0
  split at h0 <;> first | (cases h0; done) | skip
  rename_i x t hxy htt
  obtain rfl := asz hxy
  obtain rfl := asz htt
  simp only at h h0
  split at h0 <;> first | (cases h0; done) | skip
  rename_i E sz z d h1 h3
  simp only [h1, h3] at h
  split at h0 <;> first | (cases h0; done) | skip
  rename_i r j o l hr hd
  simp only [hr, hd] at h
  obtain ⟨e1, d1⟩ := evO_ok hF h3
  obtain ⟨b, c, q1, q2⟩ := dstR_ok hd d1
  rcases hl : Nat.beq l 0 with _ | _
  · simp only [hl, cond_false] at h h0
    rcases hz : Nat.beq r.zero.length r.size with _ | _
    · rw [hz] at h0; cases h0
    simp only [hz, cond_true] at h h0
    split at h0 <;> first | (cases h0; done) | skip
    rename_i L' hL
    simp only [hL] at h
    obtain ⟨i, hi, hsz, _, hok, hzz⟩ := vr_info (tbl_ok hT hr)
    obtain ⟨z, hz1, hz2⟩ := hzz hz
    obtain ⟨s1, s2, s3, s4⟩ := stoR_ok (P := P) hS hL q2 (fun x hx => hok σ.L x (repN_mem _ _ x hx))
    have hzc : (Builtin.zeroCells z.cells l).toList = (repN l r.zero).map CV.den := by
      have hzs : z.cells.size = r.zero.length := by rw [← Array.length_toList, hz2, List.length_map]
      apply List.ext_getElem?
      intro k
      rw [Array.getElem?_toList]
      simp only [Builtin.zeroCells, Array.getElem?_map, Array.getElem?_range, List.getElem?_map]
      by_cases hk : k < l * z.cells.size
      · rw [if_pos hk]
        have hpos : 0 < r.zero.length := by rcases Nat.eq_zero_or_pos r.zero.length with q | q; (rw [hzs, q] at hk; simp at hk); exact q
        rw [repN_get _ hpos _ _ (by rw [← hzs]; exact hk), ← hzs]
        have hlt : k % z.cells.size < z.cells.size := Nat.mod_lt _ (by omega)
        have : z.cells[k % z.cells.size]? = (r.zero[k % z.cells.size]?).map CV.den := by rw [← Array.getElem?_toList, hz2, List.getElem?_map]
        rw [← this]
        simp [hlt]
      · rw [if_neg hk, List.getElem?_eq_none (by rw [repN_len, ← hzs]; omega)]
        rfl
    refine ⟨undefV, ⟨L', σ.S, σ.w0⟩, _, Or.inl ?_, (fun x hx => by cases hx), s3, s2, s4, s4, s3, h⟩
    have hl0 : l ≠ 0 := fun q => by subst q; cases hl
    have hzv : (zeroValue E).run P w = .ok z w := by simp [zeroValue, typeInfo, hi, hz1]
    unfold execOp
    simp only [resolve, invoke, builtin, Sem.run_bind, Sem.run_pure, Result.andThen_ok, List.map_toArray, List.map_cons, List.map_nil, e1, q1]
    obtain ⟨l, rfl⟩ : ∃ l', l = l' + 1 := ⟨l - 1, by omega⟩
    simp only [Builtin.clear_, List.getElem?_toArray, List.getElem?_cons_zero, Sem.run_bind, run_underlying (und_slice (tbl_d hT h1)), Result.andThen_ok, hzv, hzc, s1, Sem.run_pure]
    rfl
  · simp only [hl, cond_true] at h
    obtain rfl : l = 0 := Nat.eq_of_beq_eq_true hl
    refine ⟨undefV, σ, w, Or.inl ?_, Pst.same (fun x hx => by cases hx) hS h⟩
    unfold execOp
    simp only [resolve, invoke, builtin, Sem.run_bind, Sem.run_pure, Result.andThen_ok, List.map_toArray, List.map_cons, List.map_nil, e1, q1]
    simp only [Builtin.clear_, List.getElem?_toArray, List.getElem?_cons_zero, Sem.run_bind, run_underlying (und_slice (tbl_d hT h1)), Result.andThen_ok, Sem.run_pure]
    rfl
theorem mapB_ok {j b ks vs : Nat} {cs : List CV} {L : Hp} (h : mapB L j = some (ks, vs, cs)) (hj : ∃ e : Blk, L[j]? = some e ∧ e.b = b) : ∃ u, L[j]? = some ⟨b, u, cs, .map ks vs⟩ := by
  obtain ⟨e, he, rfl⟩ := hj
  unfold mapB at h
  rw [he] at h
  split at h <;> first | (cases h; done) | skip
  rename_i b' u cs' ks' vs' hq
  cases h
  obtain rfl := Option.some.inj hq
  exact ⟨u, he⟩
theorem setMB_ok {w : World} (hS : St σ w) {j b u ks vs : Nat} {cs cs' : List CV} {L' : Hp} (hj : σ.L[j]? = some ⟨b, u, cs, .map ks vs⟩) (h : setMB σ.L j cs' = some L') (hkv : kvP ps j = false) (hc : ∀ x ∈ cs', x.ok σ.L) {o : Obj} (hM : MapIs (setBlock w b o) b (entsOf ks vs cs')) :
    St { σ with L := L' } (setBlock w b o) ∧ Ext σ.L L' ∧ KpW (some (kvP ps)) σ ⟨L', σ.S, σ.w0⟩ := by
  unfold setMB at h
  rw [hj] at h
  obtain rfl := Option.some.inj h
  rw [mkB_eq]
  exact ⟨hS.setM hj rfl hc hM, Ext.setV hj fun q => (by have := q.1; cases this), kp_set hj rfl hkv⟩
theorem xDelete_ok (hT : TbOk P tb) (hK : ∀ k ∈ kl, KeyLaw P k) {dst : Option Tmp} {az : Array Operand} {ts : Array TypeId} {ty : TypeId} {pos : String} {after : Array Edge} {g : Option (Nat × Bool)}
    (h : ∀ s, xDelete P tb kl ps F σ.L s K az.toList ts.toList = true) : Got P ps n ⟨dst, .call ⟨.builtin .delete, az, ts⟩, ty, pos, after, g⟩ F σ K := by
  intro a w hF hS
  have h0 := h fun _ => 0
  unfold xDelete at h h0
  split at h0 <;> first | (cases h0; done) | skip
  rename_i x y t k' hxy htt
  obtain rfl := asz hxy
  obtain rfl := asz htt
  simp only at h h0
  split at h0 <;> first | (cases h0; done) | skip
  rename_i k e sz z j b key h1 h3 h4
  simp only [h1, h3, h4] at h
  split at h0 <;> first | (cases h0; done) | skip
  rename_i ks vs cs hm
  simp only [hm] at h
  rcases hb : Nat.beq k k' && !(kvP ps j) with _ | _
  · rw [hb] at h0; cases h0
  simp only [hb, cond_true] at h h0
  simp only [Bool.and_eq_true, Bool.not_eq_true'] at hb
  obtain rfl : k = k' := Nat.eq_of_beq_eq_true hb.1
  split at h0 <;> first | (cases h0; done) | skip
  rename_i kc hkc
  simp only [hkc] at h
  split at h0 <;> first | (cases h0; done) | skip
  rename_i cs' hcs
  simp only [hcs] at h
  split at h0 <;> first | (cases h0; done) | skip
  rename_i L' hL
  simp only [hL] at h
  obtain ⟨e1, d1⟩ := evO_ok hF h3
  obtain ⟨e2, d2⟩ := evO_ok hF h4
  obtain ⟨u, hj⟩ := mapB_ok hm d1
  obtain ⟨k1, k2, k3, k4⟩ := svC_ok hkc d2
  obtain ⟨q1, o, q2, q3⟩ := delM_ok (ty := ty) hK (und_map (tbl_d hT h1)) hcs (hS.sat _ (List.mem_of_getElem? hj)) k1 k4
  obtain ⟨s1, s2, s3⟩ := setMB_ok hS hj hL hb.2 (fun x hx => hS.ok _ (List.mem_of_getElem? hj) x (q1 x hx)) q3
  refine ⟨undefV, ⟨L', σ.S, σ.w0⟩, _, Or.inl ?_, (fun x hx => by cases hx), s2, s1, s3, s3, s2, h⟩
  unfold execOp
  simp only [SV.den, EV.den, CV.den] at e1
  simp only [resolve, invoke, builtin, Sem.run_bind, Sem.run_pure, Result.andThen_ok, List.map_toArray, List.map_cons, List.map_nil, e1, e2, q2]
  rfl
theorem xLen_ok (hT : TbOk P tb) {dst : Option Tmp} {az : Array Operand} {ts : Array TypeId} {ty : TypeId} {pos : String} {after : Array Edge} {g : Option (Nat × Bool)}
    (h : ∀ s, xLen tb F σ.L s K az.toList ts.toList = true) : Got P ps n ⟨dst, .call ⟨.builtin .len, az, ts⟩, ty, pos, after, g⟩ F σ K := by
  intro a w hF hS
  have h0 := h fun _ => 0
  unfold xLen at h h0
  split at h0 <;> first | (cases h0; done) | skip
  rename_i x t hxy htt
  obtain rfl := asz hxy
  obtain rfl := asz htt
  simp only at h h0
  split at h0 <;> first | (cases h0; done) | skip
  · rename_i k e sz z j b h1 h3
    simp only [h1, h3] at h
    split at h0 <;> first | (cases h0; done) | skip
    rename_i ks vs cs hm
    simp only [hm] at h
    obtain ⟨e1, d1⟩ := evO_ok hF h3
    obtain ⟨u, hj⟩ := mapB_ok hm d1
    refine ⟨cI .i64 (entsOf ks vs cs).length, σ, w, Or.inl ?_, Pst.same trivial hS h⟩
    have := map_len (P := P) (w := w) (und_map (tbl_d hT h1)) (hS.sat _ (List.mem_of_getElem? hj)) ty
    unfold execOp
    simp only [SV.den, EV.den, CV.den] at e1
    simp only [resolve, invoke, builtin, Sem.run_bind, Sem.run_pure, Result.andThen_ok, List.map_toArray, List.map_cons, List.map_nil, e1, this]
    rfl
  · rename_i k e sz z h1 h3
    simp only [h1, h3] at h
    obtain ⟨e1, d1⟩ := evO_ok hF h3
    refine ⟨cI .i64 0, σ, w, Or.inl ?_, Pst.same trivial hS h⟩
    unfold execOp
    simp only [SV.den, EV.den, CV.den] at e1
    simp only [resolve, invoke, builtin, Sem.run_bind, Sem.run_pure, Result.andThen_ok, List.map_toArray, List.map_cons, List.map_nil, e1]
    simp only [Builtin.len_, List.getElem?_toArray, List.getElem?_cons_zero, Sem.run_bind, run_underlying (und_map (tbl_d hT h1)), Result.andThen_ok, Sem.run_pure, goInt]
    rfl
theorem xCap_ok (hT : TbOk P tb) {dst : Option Tmp} {az : Array Operand} {ts : Array TypeId} {ty : TypeId} {pos : String} {after : Array Edge} {g : Option (Nat × Bool)}
    (h : ∀ s, xCap tb F σ.L s K az.toList ts.toList = true) : Got P ps n ⟨dst, .call ⟨.builtin .cap, az, ts⟩, ty, pos, after, g⟩ F σ K := by
  intro a w hF hS
  have h0 := h fun _ => 0
  unfold xCap at h h0
  split at h0 <;> first | (cases h0; done) | skip
  rename_i x t hxy htt
  obtain rfl := asz hxy
  obtain rfl := asz htt
  simp only at h h0
  split at h0 <;> first | (cases h0; done) | skip
  all_goals
    rename_i h1 h3
    simp only [h1, h3] at h
    obtain ⟨e1, d1⟩ := evO_ok hF h3
    refine ⟨cI .i64 _, σ, w, Or.inl ?_, Pst.same trivial hS h⟩
    unfold execOp
    simp only [SV.den, EV.den, CV.den] at e1
    simp only [resolve, invoke, builtin, Sem.run_bind, Sem.run_pure, Result.andThen_ok, List.map_toArray, List.map_cons, List.map_nil, e1]
    simp only [Builtin.cap_, List.getElem?_toArray, List.getElem?_cons_zero, Sem.run_bind, run_underlying (und_slice (tbl_d hT h1)), Result.andThen_ok, Sem.run_pure, goInt]
    rfl
end
end
end Go.Proofs.YthmokdfigjffjaaGreatDoor

namespace Go.Proofs.YthmokdfigjffjaaGreatDoor
set_option linter.unusedVariables false
set_option linter.unusedSimpArgs false
open Go.RowKit
open Go.ChangeMaps (setBlock)
open Go.WideMaps (KeyLaw)
noncomputable section
section
variable {P : Program} {tb : Tbx} {kl ps : List Nat} {n : Nz} {F : Fr} {σ : Hs} {K : KvR} {dst : Option Tmp} {ty : TypeId} {pos : String} {after : Array Edge} {g : Option (Nat × Bool)}
theorem xLookup_ok (hT : TbOk P tb) (hK : ∀ k ∈ kl, KeyLaw P k) {t : TypeId} {x i : Operand} {c : Bool}
    (h : ∀ s, (match tbl tb t, evO F x, evO F i with
    | some ⟨.map k e, _, _⟩, some (.e (.c m)), some key => (match lookW P kl σ.L k e c key m with
      | some v => K v σ.L s
      | none => false)
    | _, _, _ => false) = true) : Got P ps n ⟨dst, .lookup t x i c, ty, pos, after, g⟩ F σ K := by
  intro a w hF hS
  have h0 := h fun _ => 0
  split at h0 <;> first | (cases h0; done) | skip
  rename_i k e sz z m key h1 h2 h3
  simp only [h1, h2, h3] at h
  split at h0 <;> first | (cases h0; done) | skip
  rename_i v hv
  simp only [hv] at h
  obtain ⟨e1, d1⟩ := evO_ok hF h2
  obtain ⟨e2, d2⟩ := evO_ok hF h3
  obtain ⟨q1, q2⟩ := lookW_ok hK (und_map (tbl_d hT h1)) hS hv d1 d2
  refine ⟨v, σ, w, Or.inl ?_, Pst.same q2 hS h⟩
  simp only [SV.den, EV.den] at e1
  simp only [execOp, e1, e2, Sem.run_bind, q1, Result.andThen_ok, Sem.run_pure]
theorem xUpdate_ok (hT : TbOk P tb) (hK : ∀ k ∈ kl, KeyLaw P k) {t : TypeId} {m k x : Operand} (h : ∀ s, xUpdate P tb kl ps F σ.L s K t m k x = true) : Got P ps n ⟨dst, .mapUpdate t m k x, ty, pos, after, g⟩ F σ K := by
  intro a w hF hS
  have h0 := h fun _ => 0
  unfold xUpdate at h h0
  split at h0 <;> first | (cases h0; done) | skip
  rename_i kt e sz z j b key v h1 h2 h3 h4
  simp only [h1, h2, h3, h4] at h
  split at h0 <;> first | (cases h0; done) | skip
  rename_i ks vs cs hm
  simp only [hm] at h
  rcases hb : kvP ps j with _ | _
  case true => rw [hb] at h0; cases h0
  simp only [hb, Bool.not_false, cond_true] at h h0
  split at h0 <;> first | (cases h0; done) | skip
  rename_i kc vc hkc hvc
  simp only [hkc, hvc] at h
  split at h0 <;> first | (cases h0; done) | skip
  rename_i cs' hcs
  simp only [hcs] at h
  split at h0 <;> first | (cases h0; done) | skip
  rename_i L' hL
  simp only [hL] at h
  obtain ⟨e1, d1⟩ := evO_ok hF h2
  obtain ⟨e2, d2⟩ := evO_ok hF h3
  obtain ⟨e3, d3⟩ := evO_ok hF h4
  obtain ⟨u, hj⟩ := mapB_ok hm d1
  obtain ⟨k1, k2, k3, k4⟩ := svC_ok hkc d2
  obtain ⟨v1, v2, v3, v4⟩ := svC_ok hvc d3
  have hok := hS.ok _ (List.mem_of_getElem? hj)
  obtain ⟨q1, o, q2, q3⟩ := updM_ok hK (und_map (tbl_d hT h1)) hcs (hS.sat _ (List.mem_of_getElem? hj)) k1 k3 k4 v1 v3
  obtain ⟨s1, s2, s3⟩ := setMB_ok hS hj hL hb (fun x hx => (q1 x hx).elim (hok x) fun q => q.elim (k2 x) (v2 x)) q3
  refine ⟨undefV, ⟨L', σ.S, σ.w0⟩, _, Or.inr ⟨rfl, ?_⟩, (fun x hx => by cases hx), s2, s1, s3, s3, s2, h⟩
  simp only [SV.den, EV.den, CV.den] at e1
  simp only [execOp, e1, e2, e3, Sem.run_bind, q2, Result.andThen_ok, Sem.run_pure]
theorem xMakeMap_ok (hT : TbOk P tb) {t : TypeId} {r : Option Operand} (h : ∀ s, xMakeMap tb σ.L s K t r = true) : Got P ps n ⟨dst, .makeMap t r, ty, pos, after, g⟩ F σ K := by
  intro a w hF hS
  have h0 := h fun _ => 0
  unfold xMakeMap at h h0
  split at h0 <;> first | (cases h0; done) | skip
  simp only at h
  split at h0 <;> first | (cases h0; done) | skip
  rename_i k e sz z h1
  simp only [h1] at h
  split at h0 <;> first | (cases h0; done) | skip
  rename_i rk re h2 h3
  simp only [h2, h3] at h
  refine ⟨.e (.c (.m σ.L.length w.heap.size)), _, _, Or.inl ?_, ⟨⟨w.heap.size, 0, [], .map (szC rk) (szC re)⟩, by simp, rfl⟩, Ext.push _ _, hS.newM (szC rk) (szC re), kp_push (KpW.refl _ _) (Or.inr hS.fp.size), kp_push (KpW.refl _ _) (Or.inr hS.fp.size), Ext.push _ _, fun s => h (cns w.heap.size s)⟩
  simp only [execOp, Option.map_none, Instr.makeMap, Sem.run_bind, Sem.run_pure, Result.andThen_ok, run_newObj]
  rfl
theorem xMakeSlice_ok (hT : TbOk P tb) {t : TypeId} {l c : Operand} (h : ∀ s, xMakeSlice P tb F σ.L s K t l c = true) : Got P ps n ⟨dst, .makeSlice t l c, ty, pos, after, g⟩ F σ K := by
  intro a w hF hS
  have h0 := h fun _ => 0
  unfold xMakeSlice at h h0
  split at h0 <;> first | (cases h0; done) | skip
  rename_i E sz z k1 l' k2 c' h1 h2 h3
  simp only [h1, h2, h3] at h
  split at h0 <;> first | (cases h0; done) | skip
  rename_i r hr
  simp only [hr] at h
  rcases hb : Nat.beq r.zero.length r.size && bytesB P E && Nat.ble l' c' && Nat.ble c' 1048576 with _ | _
  · rw [hb] at h0; cases h0
  simp only [hb, cond_true] at h
  simp only [Bool.and_eq_true, Nat.ble_eq] at hb
  obtain ⟨⟨⟨b1, b2⟩, b3⟩, b4⟩ := hb
  obtain ⟨i, hi, hbi⟩ := bytesB_ok b2
  obtain ⟨i', hi', hsz, _, hok, hzz⟩ := vr_info (tbl_ok hT hr)
  rw [hi] at hi'
  obtain rfl := Option.some.inj hi'
  obtain ⟨zv, hz1, hz2⟩ := hzz b1
  have hzs : zv.cells.size = r.zero.length := by rw [← Array.length_toList, hz2, List.length_map]
  have hrz : r.zero.length = r.size := Nat.eq_of_beq_eq_true b1
  have e1 := (evO_ok hF h2).1
  have e2 := (evO_ok hF h3).1
  have hst := hS.new (cs := repN c' r.zero) (fun x hx => hok σ.L x (repN_mem _ _ x hx)) E
  refine ⟨.e (.c (.s σ.L.length w.heap.size 0 l' c')), _, _, Or.inl ?_, ⟨⟨w.heap.size, 0, repN c' r.zero, .obj E⟩, by simp, rfl, rfl⟩, Ext.push _ _, hst, kp_push (KpW.refl _ _) (Or.inr hS.fp.size), kp_push (KpW.refl _ _) (Or.inr hS.fp.size), Ext.push _ _, fun s => h (cns w.heap.size s)⟩
  have hle : (i.bytes : Int) * (c' : Int) ≤ 281474976710656 := by
    have h1 := Nat.mul_le_mul hbi b4
    have h2 : i.bytes * c' ≤ 281474976710656 := Nat.le_trans h1 (by decide)
    have h3 : ((i.bytes * c' : Nat) : Int) ≤ 281474976710656 := by omega
    rwa [Int.natCast_mul] at h3
  have hcells : madeCells zv.cells (c' * i.size) = ((repN c' r.zero).map CV.den).toArray := by
    apply Array.ext_getElem?
    intro k
    rw [hsz]
    simp only [madeCells, Array.getElem?_map, Array.getElem?_range, List.getElem?_toArray, List.getElem?_map]
    by_cases hk : k < c' * r.size
    · rw [if_pos hk]
      have hpos : 0 < r.zero.length := by
        rcases Nat.eq_zero_or_pos r.size with q | q
        · rw [q] at hk; simp at hk
        · rw [hrz]; exact q
      rw [repN_get _ hpos _ _ (by rw [hrz]; exact hk), ← hzs]
      have hlt : k % zv.cells.size < zv.cells.size := Nat.mod_lt _ (by omega)
      have : zv.cells[k % zv.cells.size]? = (r.zero[k % zv.cells.size]?).map CV.den := by rw [← Array.getElem?_toList, hz2, List.getElem?_map]
      rw [← this]
      simp [hlt]
    · rw [if_neg hk, List.getElem?_eq_none (by rw [repN_len, hrz]; omega)]
      rfl
  have hrun := run_make (P := P) w t E i zv (und_slice (tbl_d hT h1)) hi hz1 k1 k2 (l' : Int) (c' : Int) (by omega) (by omega) hle (by omega)
  rw [Int.toNat_natCast, Int.toNat_natCast, hcells] at hrun
  simp only [SV.den, EV.den, CV.den] at e1 e2
  simp only [execOp, e1, e2, Sem.run_bind, Int.ofNat_eq_natCast, hrun, Result.andThen_ok, Sem.run_pure]
  rfl
theorem bytesC_ok : ∀ {cs : List CV} {bs : List UInt8}, bytesC cs = some bs → ∃ ns : List Int, cs.map CV.den = ns.map (Value.int .u8) ∧ ∀ r : ByteArray, ns.foldl (fun r n => r.push (UInt8.ofNat n.toNat)) r = ⟨r.data ++ bs.toArray⟩
  | [], bs, h => by obtain rfl := Option.some.inj h; exact ⟨[], rfl, fun r => by simp⟩
  | x :: l, bs, h => by
    unfold bytesC at h
    split at h <;> first | (cases h; done) | skip
    · rename_i q; cases q
    · rename_i n l' hq
      cases hq
      split at h <;> first | (cases h; done) | skip
      rename_i bs' hb
      obtain rfl := Option.some.inj h
      obtain ⟨ns, h1, h2⟩ := bytesC_ok hb
      refine ⟨n :: ns, by rw [List.map_cons, List.map_cons, h1]; rfl, fun r => ?_⟩
      rw [List.foldl_cons, h2]
      simp [ByteArray.push]
theorem xConvert_ok (hT : TbOk P tb) {t d : TypeId} {x : Operand} (h : ∀ s, xConvert tb F σ.L s K t d x = true) : Got P ps n ⟨dst, .convert t d x, ty, pos, after, g⟩ F σ K := by
  intro a w hF hS
  have h0 := h fun _ => 0
  unfold xConvert at h h0
  split at h0 <;> first | (cases h0; done) | skip
  rename_i e sz z sz' z' y h1 h2 h3
  simp only [h1, h2, h3] at h
  split at h0 <;> first | (cases h0; done) | skip
  rename_i sz2 z2 hr
  simp only [hr] at h
  split at h0 <;> first | (cases h0; done) | skip
  rename_i m cs hsrc
  simp only [hsrc] at h
  split at h0 <;> first | (cases h0; done) | skip
  rename_i bs hbs
  simp only [hbs, forceV_eq] at h
  obtain ⟨e1, d1⟩ := evO_ok hF h3
  obtain ⟨ns, n1, n2⟩ := bytesC_ok hbs
  refine ⟨.e (.c (.v (.string ⟨⟨bs⟩⟩))), σ, w, Or.inl ?_, Pst.same (show SV.ok σ.L (.e (.c (.v (.string ⟨⟨bs⟩⟩)))) from rfl) hS h⟩
  have hres : (⟨ByteArray.empty.data ++ bs.toArray⟩ : ByteArray) = ⟨⟨bs⟩⟩ := by
    apply ByteArray.ext
    show ByteArray.empty.data ++ bs.toArray = bs.toArray
    rw [show ByteArray.empty.data = #[] from rfl, Array.empty_append]
  have u1 := und_slice (tbl_d hT h1)
  have u2 := und_int (tbl_d hT hr)
  have u3 := und_str (tbl_d hT h2)
  have key : ∀ {j b o l c : Nat}, (∃ e : Blk, σ.L[j]? = some e ∧ e.b = b ∧ e.u = 0) → cellsR σ.L j o (l * 1) = some cs → (convert t d (.slice (some ⟨b, o, none⟩) l c)).run P w = .ok (.string ⟨⟨bs⟩⟩) w := fun {j b o l c} hj hc => by
    rw [Nat.mul_one] at hc
    obtain ⟨c1, c2, c3⟩ := cellsR_ok hS hc hj
    rw [run_convert_bytes_string w t d e _ _ _ u1 u2 u3, run_bytesToString w ⟨b, o, none⟩ l c ns, n2, hres]
    rw [← n1]
    have := run_loadCells_list (P := P) (w := w) ⟨b, o, none⟩ (cs.map CV.den) (fun k v hv => by
      rw [List.getElem?_map] at hv
      rcases hkk : cs[k]? with _ | y
      · rw [hkk] at hv; cases hv
      rw [hkk] at hv
      obtain rfl : y.den = v := by simpa using hv
      have := c3 k y hkk
      cases k with
      | zero => simpa [Addr.add] using this
      | succ k => simpa [Addr.add] using this)
    rw [List.length_map, c1] at this
    exact this
  have fin : (convert t d y.den).run P w = .ok (.string ⟨⟨bs⟩⟩) w := by
    unfold srcR at hsrc
    split at hsrc <;> first | (cases hsrc; done) | skip
    · split at hsrc <;> first | (cases hsrc; done) | skip
      rename_i hc
      cases hsrc
      exact key d1 hc
    · split at hsrc <;> first | (cases hsrc; done) | skip
      rename_i hc
      cases hsrc
      obtain ⟨e0, q1, q2, q3, _⟩ := d1
      exact key ⟨e0, q1, q2, q3⟩ hc
    · cases hsrc
      obtain rfl := Option.some.inj hbs
      exact run_convert_bytes_string w t d e none 0 _ u1 u2 u3
  simp only [execOp, e1, Sem.run_bind, fin, Result.andThen_ok, Sem.run_pure]
  rfl
theorem natO_ok {a : Act} (hF : FrOk n a σ.L F) {x : Operand} {m : Nat} (h : natO F x = some m) : ∃ k, a.eval x = .int k (m : Int) := by
  unfold natO at h
  split at h <;> first | (cases h; done) | skip
  rename_i k m' hx
  obtain rfl := Option.some.inj h
  exact ⟨k, (evO_ok hF hx).1⟩
theorem run_sl3 {w : World} {T e : TypeId} (hu : P.underlying T = some (.slice e)) {r : TR} (hr : vr P e = some r) {ad : Addr} {len cap h m : Nat} {k k' : IntKind} {lo : Option Value} (hl : ∀ v, lo = some v → ∃ k, v = .int k 0) (h1 : h ≤ m) (h2 : m ≤ cap) :
    (Instr.sliceAt T (.slice (some ad) len cap) lo (some (.int k h)) (some (.int k' m))).run P w = .ok (.slice (some ad) h m) w := by
  have b1 : (0 : Int) ≤ (m : Int) ∧ (m : Int) ≤ (cap : Int) := by omega
  have b2 : (0 : Int) ≤ (h : Int) ∧ (h : Int) ≤ (m : Int) := by omega
  have hb : (Instr.sliceBounds true len cap lo (some (.int k h)) (some (.int k' m))).run P w = .ok (0, h, m) w := by
    rcases lo with _ | v
    · simp [Instr.sliceBounds, Instr.sliceBound, asIntOf, b1, b2]
      intro q; omega
    · obtain ⟨k2, rfl⟩ := hl v rfl
      have b3 : (0 : Int) ≤ 0 ∧ (0 : Int) ≤ (h : Int) := by omega
      simp [Instr.sliceBounds, Instr.sliceBound, asIntOf, b1, b2]
      intro q; omega
  have ha : Addr.add ad 0 = ad := by unfold Addr.add; rfl
  simp only [Instr.sliceAt, Instr.slice, Sem.run_bind, run_underlying hu, Result.andThen_ok, hb, run_sizeOf hr, Sem.run_pure, Nat.zero_mul, Nat.sub_zero, Option.map_some, ha, ite_self]
theorem xSlice3_ok (hT : TbOk P tb) {t : TypeId} {x : Operand} {lo hi : Option Operand} {mx : Operand} (h : ∀ s, xSlice3 tb F σ.L s K t x lo hi mx = true) : Got P ps n ⟨dst, .slice t x lo hi (some mx), ty, pos, after, g⟩ F σ K := by
  intro a w hF hS
  have h0 := h fun _ => 0
  unfold xSlice3 at h h0
  split at h0 <;> first | (cases h0; done) | skip
  · rename_i e sz z j b o l0 c l hi' h1 h2 h3
    simp only [h1, h2, h3] at h
    rcases hb : decide (l.getD 0 = 0) with _ | _
    · rw [hb] at h0; cases h0
    simp only [hb, cond_true] at h h0
    split at h0 <;> first | (cases h0; done) | skip
    rename_i hh m r h4 h5 hr
    simp only [h4, h5, hr] at h
    rcases hc : Nat.ble hh m && Nat.ble m c with _ | _
    · rw [hc] at h0; cases h0
    simp only [hc, cond_true] at h
    simp only [Bool.and_eq_true, Nat.ble_eq] at hc
    obtain ⟨e1, d1⟩ := evO_ok hF h2
    obtain ⟨kh, e4⟩ := natO_ok hF h4
    obtain ⟨km, e5⟩ := natO_ok hF h5
    obtain ⟨a1, a2⟩ := optI_ok hF h3
    refine ⟨.e (.c (.s j b o hh m)), σ, w, Or.inl ?_, Pst.same (show SV.ok σ.L (.e (.c (.s j b o hh m))) from d1) hS h⟩
    have := run_sl3 (w := w) (und_slice (tbl_d hT h1)) (tbl_ok hT hr) (ad := ⟨b, o, none⟩) (len := l0) (k := kh) (k' := km) (lo := lo.map a.eval) (fun v hv => by
      obtain ⟨k2, m2, q1, q2⟩ := a1 v hv
      subst q2
      have := of_decide_eq_true hb
      simp only [Option.getD_some] at this
      exact ⟨k2, by rw [q1, this]⟩) hc.1 hc.2
    simp only [SV.den, EV.den, CV.den] at e1
    simp only [execOp, e1, Option.map_some, e4, e5, Sem.run_bind, this, Result.andThen_ok, Sem.run_pure]
    rfl
  · rename_i e sz z j b o zz l0 kk xx l hi' h1 h2 h3
    simp only [h1, h2, h3] at h
    rcases hb : decide (l.getD 0 = 0) with _ | _
    · rw [hb] at h0; cases h0
    simp only [hb, cond_true] at h h0
    split at h0 <;> first | (cases h0; done) | skip
    rename_i hh m r h4 h5 hr
    simp only [h4, h5, hr] at h
    rcases hc : Nat.ble hh m && Nat.ble m kk with _ | _
    · rw [hc] at h0; cases h0
    simp only [hc, cond_true] at h
    simp only [Bool.and_eq_true, Nat.ble_eq] at hc
    obtain ⟨e1, d1⟩ := evO_ok hF h2
    obtain ⟨kh, e4⟩ := natO_ok hF h4
    obtain ⟨km, e5⟩ := natO_ok hF h5
    obtain ⟨a1, a2⟩ := optI_ok hF h3
    refine ⟨.e (.c (.s j b o hh m)), σ, w, Or.inl ?_, Pst.same (show SV.ok σ.L (.e (.c (.s j b o hh m))) by obtain ⟨e0, q1, q2, q3, _⟩ := d1; exact ⟨e0, q1, q2, q3⟩) hS h⟩
    have := run_sl3 (w := w) (und_slice (tbl_d hT h1)) (tbl_ok hT hr) (ad := ⟨b, o, none⟩) (len := l0) (cap := kk + xx) (k := kh) (k' := km) (lo := lo.map a.eval) (fun v hv => by
      obtain ⟨k2, m2, q1, q2⟩ := a1 v hv
      subst q2
      have := of_decide_eq_true hb
      simp only [Option.getD_some] at this
      exact ⟨k2, by rw [q1, this]⟩) hc.1 (by omega)
    simp only [SV.den, EV.den, CV.den] at e1
    simp only [execOp, e1, Option.map_some, e4, e5, Sem.run_bind, this, Result.andThen_ok, Sem.run_pure]
    rfl
theorem valP_ok {w : World} {a : Act} (hF : FrOk n a σ.L F) {o : Oper} {v : SV} (h : valP F o.op = some v) : (execOp a.eval o).run P w = .ok (.value v.den) w ∧ v.ok σ.L := by
  obtain ⟨dst, op, ty, pos, after, gu⟩ := o
  simp only at h
  unfold valP at h
  split at h <;> first | (cases h; done) | skip
  rename_i op T x y g
  split at h <;> first | (cases h; done) | skip
  rename_i k m k' m' hx hy
  have e1 := (evO_ok hF hx).1
  have e2 := (evO_ok hF hy).1
  simp only [SV.den, EV.den, CV.den] at e1 e2
  have hg : ∀ u v, (eqGuard op T x y (.int k u) v).run P w = .ok () w := fun u v => by cases op <;> rfl
  rcases hs : isSh op with _ | _
  · rw [hs] at h
    simp only [cond_false] at h
    rcases hm : Nat.beq m' 0 with _ | _
    case true => rw [hm] at h; cases h
    rw [hm] at h
    simp only [cond_false] at h
    rcases hk : kEq k k' with _ | _
    · rw [hk] at h; cases h
    rw [hk] at h
    simp only [cond_true] at h
    obtain rfl := kEq_ok hk
    have hd : (Int.ofNat m' : Int) ≠ 0 := fun q => by
      have : m' = 0 := by simpa using q
      subst this; cases hm
    have hb : (binOp op T (.int k m) (.int k (Int.ofNat m'))).run P w = .ok v.den w ∧ v.ok σ.L := by
      clear e2
      generalize Int.ofNat m' = y at hd h ⊢
      cases op <;> simp only [intS, isSh] at h hs <;> first
        | (cases hs; done)
        | (cases h; done)
        | (simp only [cond_true] at h
           obtain rfl := Option.some.inj h
           exact ⟨by simp [binOp, Op.intDiv, hd, SV.den, EV.den, CV.den], trivial⟩)
        | (obtain rfl := Option.some.inj h; exact ⟨by simp [binOp, Op.intArith, Op.intCmp, Op.intBits, SV.den, EV.den, CV.den], trivial⟩)
    refine ⟨?_, hb.2⟩
    simp only [execOp, e1, e2, Sem.run_bind, hg, Result.andThen_ok, hb.1, Sem.run_pure]
  · rw [hs] at h
    simp only [cond_true] at h
    have hd : ¬ (Int.ofNat m' : Int) < 0 := by simp
    have hb : (binOp op T (.int k m) (.int k' (Int.ofNat m'))).run P w = .ok v.den w ∧ v.ok σ.L := by
      clear e2
      generalize Int.ofNat m' = y at hd h ⊢
      cases op <;> simp only [shS, isSh] at h hs <;> first
        | (cases h; done)
        | (obtain rfl := Option.some.inj h; exact ⟨by simp [binOp, Op.shift, hd, SV.den, EV.den, CV.den], trivial⟩)
    refine ⟨?_, hb.2⟩
    simp only [execOp, e1, e2, Sem.run_bind, hg, Result.andThen_ok, hb.1, Sem.run_pure]
end
theorem valP_plain {F : Fr} {op : Op} {v : SV} (h : valP F op = some v) (L : Hp) : v.ok L := by
  unfold valP at h
  split at h <;> first | (cases h; done) | skip
  rename_i op T x y g
  split at h <;> first | (cases h; done) | skip
  rename_i k m k' m' hx hy
  rcases hs : isSh op with _ | _
  · rw [hs] at h
    simp only [cond_false] at h
    rcases hm : Nat.beq m' 0 with _ | _
    case true => rw [hm] at h; cases h
    rw [hm] at h
    simp only [cond_false] at h
    rcases hk : kEq k k' with _ | _
    · rw [hk] at h; cases h
    rw [hk] at h
    simp only [cond_true] at h
    cases op <;> simp only [intS, isSh, cond_true] at h hs <;> first
      | (cases hs; done)
      | (cases h; done)
      | (obtain rfl := Option.some.inj h; trivial)
  · rw [hs] at h
    simp only [cond_true] at h
    cases op <;> simp only [shS, isSh] at h hs <;> first
      | (cases h; done)
      | (obtain rfl := Option.some.inj h; trivial)
theorem rtX_ok {P : Program} : RtOk P rtX := fun n o F σ σ0 kv K v h hK => ⟨⟨v, fun a hF w _ => (valP_ok (w := w) hF h).1, valP_plain h σ.L, hK⟩⟩
/-- The added operations are met. -/
theorem rawX_ok {P : Program} {tb : Tbx} {kl : List Nat} (hT : TbOk P tb) (hK : ∀ k ∈ kl, KeyLaw P k) (gl : Gl) : RawOk P gl (rawX P tb kl) := fun ps n o F σ K _ h => by
  refine raw_of ?_
  have h0 := h fun _ => 0
  obtain ⟨dst, op, ty, pos, after, g⟩ := o
  unfold rawX at h h0
  simp only at h h0
  split at h0 <;> first | (cases h0; done) | skip
  · exact xAppend_ok hT h
  · exact xCopy_ok hT h
  · exact xClear_ok hT h
  · exact xDelete_ok hT hK h
  · exact xLen_ok hT h
  · exact xCap_ok hT h
  · exact xLookup_ok hT hK h
  · exact xUpdate_ok hT hK h
  · exact xMakeMap_ok hT h
  · exact xMakeSlice_ok hT h
  · exact xConvert_ok hT h
  · exact xSlice3_ok hT h
  · rename_i p t x y g'
    split at h0 <;> first | (cases h0; done) | skip
    rename_i v hv
    simp only [hv, forceV_eq] at h
    intro a w hF hS
    have := valP_ok (P := P) (w := w) hF (o := ⟨dst, .binOp p t x y g', ty, pos, after, g⟩) (v := v) hv
    exact ⟨v, σ, w, Or.inl this.1, Pst.same this.2 hS h⟩
end
end Go.Proofs.YthmokdfigjffjaaGreatDoor

namespace Go.Proofs.YthmokdfigjffjaaGreatDoor
set_option linter.unusedVariables false
set_option linter.unusedSimpArgs false
open Go.RowKit
noncomputable section

abbrev Fd (ro : Option Nat) : Fence := { Fence.wide with round := ro }
theorem callsFd {ro : Option Nat} {m : Nat} {P : Program} {f : FuncId} {args : Array Value} {w : World} {R : Ending → World → Prop} : CallsIn (Fd ro) m P f args w R ↔ Calls P f args w R := callsIn_wide (n := m)
theorem rowsFd {ro : Option Nat} {m : Nat} {P : Program} {row : String} {args : Array Value} {w : World} {R : Value → World → Prop} (h : Rows P row args w R) : RowsIn (Fd ro) m P row args w R := fun c cs _ => by
  obtain ⟨v, w', r, s⟩ := h c cs
  exact ⟨v, w', r, stepsIn_wide.2 s⟩
section
variable {P : Program} {ro : Option Nat} {m : Nat}
/-- An operation that is walked plainly is walked so behind a fence. -/
theorem opFd {o : Oper} (hd : ∀ c, o.op ≠ .defer c) {a : Act} {w : World} {next : Act → World → Prop} {Q : Exit → Act → World → Prop} (h : o.wp P a w next Q) : o.wpIn (Fd ro) m P a w next Q := by
  refine ⟨fun _ _ => trivial, ?_⟩
  rw [Oper.semAt_eq _ _ _ hd]
  unfold Oper.wp at h
  rcases hr : (execOp a.eval o).run P w with ⟨x, w'⟩ | ⟨x, w'⟩
  · rw [hr] at h
    cases x with
    | value v => exact h
    | skip => exact h
    | defer d => exact h
    | enter f args => exact ⟨(fun q => by cases q), callsFd.2 h⟩
    | row row args => exact ⟨(fun q => by cases q), rowsFd h⟩
    | _ => exact h.elim
  · rw [hr] at h
    cases x <;> first | exact h | exact h.elim
/-- An operation is no deferred call. -/
def ndB (o : Oper) : Bool := match o.op with
  | .defer _ => false
  | _ => true
theorem ndB_ok {o : Oper} (h : ndB o = true) : ∀ c, o.op ≠ .defer c := fun c q => by
  unfold ndB at h
  rw [q] at h; cases h
theorem anyFd {ops : Array Oper} (hd : ops.toList.all ndB = true) {Q : Exit → Act → World → Prop} (hQ : ¬ LetsOut Q) {md : Region.Mode} : ∀ (fuel : Nat) (ls : Array Bool) (a : Act) (w : World), wpAny P md ops Q fuel ls a w → wpAnyIn (Fd ro) m P md ops Q fuel ls a w
  | 0, ls, a, w, h => h
  | fuel + 1, ls, a, w, h => by
    refine ⟨h.1, fun i hi => ?_⟩
    have h := h.2 i hi
    unfold wpOp at h
    unfold wpOpIn
    rcases ho : ops[i]? with _ | o
    · rw [ho] at h
      exact anyFd hd hQ fuel _ a w h
    · rw [ho] at h
      simp only at h ⊢
      have hdo : ∀ c, o.op ≠ .defer c := ndB_ok (List.all_eq_true.1 hd o (by have := Array.mem_of_getElem? ho; exact Array.mem_toList_iff.2 this))
      by_cases hw : Region.wanted o (yielded ops a.tmps) = true
      · rw [if_pos hw] at h ⊢
        rcases h with h | h
        · exact opFd hdo (Oper.wp_mono (fun a' w' q => anyFd hd hQ fuel _ a' w' q) h)
        · exact absurd h.2 hQ
      · rw [if_neg hw] at h ⊢
        exact ⟨fun _ _ => trivial, anyFd hd hQ fuel _ _ w h⟩
end
theorem rz_out {n : Nz} {Q : Exit → Fr → Hs → Prop} : ¬ LetsOut (Rz n Q) := fun ⟨_, _, h⟩ => h
/-- A frame that is laid flat: without what is behind newer values, and without what is no value. -/
def flM : Fr → Nat → Fr
  | [], _ => []
  | (t, x) :: r, k => bif Nat.testBit k t then flM r k else (match x with
    | .e y => (t, .e y) :: flM r (Nat.lor k (Nat.shiftLeft 1 t))
    | .t _ => flM r (Nat.lor k (Nat.shiftLeft 1 t)))
theorem look_flM : ∀ (F : Fr) (k t : Nat) (x : SV), look (flM F k) t = some x → Nat.testBit k t = false ∧ look F t = some x
  | [], k, t, x, h => by simp [flM, look_nil] at h
  | (u, y) :: r, k, t, x, h => by
    simp only [flM] at h
    have key : Nat.testBit k u = false → look (flM r (Nat.lor k (Nat.shiftLeft 1 u))) t = some x → Nat.testBit k t = false ∧ look ((u, y) :: r) t = some x := fun hb h => by
      obtain ⟨h1, h2⟩ := look_flM r _ t x h
      have h3 : (Nat.testBit k t || Nat.testBit (Nat.shiftLeft 1 u) t) = false := by rw [← Nat.testBit_or]; exact h1
      simp only [Bool.or_eq_false_iff] at h3
      refine ⟨h3.1, ?_⟩
      rw [look_cons]
      rcases hu : Nat.beq u t with _ | _
      · exact h2
      · obtain rfl : u = t := by simpa using hu
        have : Nat.testBit (Nat.shiftLeft 1 u) u = true := by
          show Nat.testBit (1 <<< u) u = true
          simp [Nat.testBit_shiftLeft]
        rw [h3.2] at this; cases this
    rcases hb : Nat.testBit k u with _ | _
    · rw [hb] at h
      simp only [cond_false] at h
      cases y with
      | t l => exact key hb h
      | e y =>
        simp only [look_cons] at h
        rcases hu : Nat.beq u t with _ | _
        · rw [hu] at h; exact key hb h
        · rw [hu] at h
          obtain rfl : u = t := by simpa using hu
          exact ⟨hb, by rw [look_cons, hu]; exact h⟩
    · rw [hb] at h
      obtain ⟨h1, h2⟩ := look_flM r k t x h
      refine ⟨h1, ?_⟩
      rw [look_cons]
      rcases hu : Nat.beq u t with _ | _
      · exact h2
      · obtain rfl : u = t := by simpa using hu
        rw [hb] at h1; cases h1
def shp : Fr → List (Nat × Option Nat)
  | [] => []
  | (t, .e (.c _)) :: r => (t, none) :: shp r
  | (t, .e (.a l)) :: r => (t, some l.length) :: shp r
  | (_, .t _) :: r => shp r
def cel : Fr → List CV
  | [] => []
  | (_, .e (.c x)) :: r => x :: cel r
  | (_, .e (.a l)) :: r => l ++ cel r
  | (_, .t _) :: r => cel r
theorem unf_cel : ∀ (F : Fr) (k : Nat), unf (shp (flM F k)) (cel (flM F k)) = flM F k
  | [], k => rfl
  | (t, x) :: r, k => by
    simp only [flM]
    rcases Nat.testBit k t with _ | _
    · simp only [cond_false]
      rcases x with (x | l) | l
      · simp only [shp, cel, unf, unf_cel r]
      · simp only [shp, cel, unf, List.take_left, List.drop_left, unf_cel r]
      · exact unf_cel r _
    · exact unf_cel r k
theorem bit_lor (k u t : Nat) : Nat.testBit (Nat.lor k (Nat.shiftLeft 1 u)) t = (Nat.testBit k t || Nat.testBit (Nat.shiftLeft 1 u) t) := Nat.testBit_or ..
theorem bit_self (u : Nat) : Nat.testBit (Nat.shiftLeft 1 u) u = true := by
  show Nat.testBit (1 <<< u) u = true
  simp [Nat.testBit_shiftLeft]
theorem mem_flM : ∀ {F : Fr} {k t : Nat} {x : SV}, (t, x) ∈ flM F k → Nat.testBit k t = false ∧ look (flM F k) t = some x
  | [], k, t, x, h => by cases h
  | (u, y) :: r, k, t, x, h => by
    simp only [flM] at h ⊢
    rcases hb : Nat.testBit k u with _ | _
    · rw [hb] at h
      simp only [cond_false] at h ⊢
      have low : (t, x) ∈ flM r (Nat.lor k (Nat.shiftLeft 1 u)) → Nat.testBit k t = false ∧ u ≠ t ∧ look (flM r (Nat.lor k (Nat.shiftLeft 1 u))) t = some x := fun q => by
        obtain ⟨h1, h2⟩ := mem_flM q
        rw [bit_lor] at h1
        simp only [Bool.or_eq_false_iff] at h1
        exact ⟨h1.1, (fun e => by subst e; rw [bit_self] at h1; cases h1.2), h2⟩
      cases y with
      | t l => exact ⟨(low h).1, (low h).2.2⟩
      | e y =>
        rcases List.mem_cons.1 h with q | q
        · cases q
          exact ⟨hb, by rw [look_cons, show Nat.beq u u = true from Nat.beq_refl u]; rfl⟩
        · obtain ⟨h1, h2, h3⟩ := low q
          refine ⟨h1, ?_⟩
          rw [look_cons]
          rcases hu : Nat.beq u t with _ | _
          · exact h3
          · exact absurd (Nat.eq_of_beq_eq_true hu) h2
    · rw [hb] at h
      exact mem_flM h
theorem cel_mem : ∀ {F : Fr} {y : CV}, y ∈ cel F → ∃ t x, (t, x) ∈ F ∧ (x = .e (.c y) ∨ ∃ l, x = .e (.a l) ∧ y ∈ l)
  | [], y, h => by cases h
  | (t, .e (.c z)) :: r, y, h => by
    rcases List.mem_cons.1 h with rfl | h
    · exact ⟨t, _, List.mem_cons_self .., Or.inl rfl⟩
    · obtain ⟨u, x, h1, h2⟩ := cel_mem h; exact ⟨u, x, List.mem_cons_of_mem _ h1, h2⟩
  | (t, .e (.a l)) :: r, y, h => by
    rcases List.mem_append.1 h with h | h
    · exact ⟨t, _, List.mem_cons_self .., Or.inr ⟨l, rfl, h⟩⟩
    · obtain ⟨u, x, h1, h2⟩ := cel_mem h; exact ⟨u, x, List.mem_cons_of_mem _ h1, h2⟩
  | (t, .t l) :: r, y, h => by
    obtain ⟨u, x, h1, h2⟩ := cel_mem (F := r) h; exact ⟨u, x, List.mem_cons_of_mem _ h1, h2⟩
theorem cel_ok {L : Hp} {F : Fr} {k : Nat} (h : ∀ t x, look (flM F k) t = some x → x.ok L) : ∀ y ∈ cel (flM F k), y.ok L := fun y hy => by
  obtain ⟨t, x, h1, h2⟩ := cel_mem hy
  have := h t x (mem_flM h1).2
  rcases h2 with rfl | ⟨l, rfl, h3⟩
  · exact this
  · exact this y h3
theorem unf_ok {L : Hp} {sh : List (Nat × Option Nat)} {cs : List CV} (h : ∀ y ∈ cs, y.ok L) (t : Nat) (x : SV) (hx : look (unf sh cs) t = some x) : x.ok L := by
  rcases unf_mem hx with ⟨y, h1, rfl⟩ | ⟨l, rfl, h1⟩
  · exact h y h1
  · exact fun y hy => h y (h1 y hy)
end
end Go.Proofs.YthmokdfigjffjaaGreatDoor
