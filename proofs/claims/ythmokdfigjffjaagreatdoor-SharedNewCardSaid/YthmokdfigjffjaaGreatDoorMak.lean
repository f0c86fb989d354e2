/- Texts of this proof, merged: Szg Hk Szh Sxt Sxp Rx CmA. -/
import Derived.Test.YthmokdfigjffjaaGreatDoorMaj
import Derived.Test.YthmokdfigjffjaaGreatDoorMai
import Derived.Test.YthmokdfigjffjaaGreatDoorProg
import Derived.Test.YthmokdfigjffjaaGreatDoorMad
import Derived.Test.YthmokdfigjffjaaGreatDoorMaf
import Derived.DeepKeys4
namespace Go.Proofs.YthmokdfigjffjaaGreatDoor
set_option linter.unusedVariables false
set_option linter.unusedSimpArgs false
open Go.RowKit
noncomputable section

def numsC : List CV → Option (List Nat)
  | [] => some []
  | .i .u16 (.ofNat n) :: l => bif Nat.blt n 65536 then (match numsC l with
    | some r => some (n :: r)
    | none => none) else none
  | _ => none
def wB : List Nat → List UInt8
  | [] => []
  | n :: l => UInt8.ofNat (n / 256) :: UInt8.ofNat (n % 256) :: wB l
noncomputable def hkWord (_ : List Nat) (xs : List SV) (L : Hp) (s : Strm) (K : KvR) : Bool :=
  match xs with
  | [.e (.c (.s j _ 0 l _))] => (match L[j]? with
    | some ⟨_, _, cs, .obj _⟩ => (match takeN l cs with
      | some cs => (match numsC cs with
        | some ns => bif Nat.ble ns.length 100 then forceL (wB ns) fun l => K (.e (.c (.v (.string ⟨⟨l⟩⟩)))) L s else false
        | none => false)
      | none => false)
    | _ => false)
  | _ => false
noncomputable def hkWith (_ : List Nat) (xs : List SV) (L : Hp) (s : Strm) (K : KvR) : Bool :=
  match xs with
  | [.e (.c (.v (.string ⟨⟨a⟩⟩))), .e (.c (.i .i64 (.ofNat i))), .e (.c (.v (.string ⟨⟨p⟩⟩)))] =>
    bif Nat.ble a.length 1000 && Nat.ble i 1000 && Nat.ble p.length 1000 && Nat.ble (i + p.length) a.length then forceL (a.take i ++ p ++ a.drop (i + p.length)) fun l => K (.t [.c (.v (.string ⟨⟨l⟩⟩)), .c .tt]) L s else false
  | _ => false
section
variable {P : Program} {gl : Gl} {f : Nat}
/-- Nothing was written. -/
theorem St.nowr {σ : Hs} {w w' : World} (h : St σ w) (hn : NoW w w') : St σ w' := by
  refine ⟨fun e he => Blk.keep (h.sat e he) (hn.block _ (h.lt e he) id), h.ok, h.nd, fun e he => Nat.lt_of_lt_of_le (h.lt e he) hn.size, Fp.trans h.fp hn (fun i _ q => q.elim)⟩
theorem numsC_ok : ∀ {cs : List CV} {ns : List Nat}, numsC cs = some ns → ns.length = cs.length ∧ (∀ x ∈ ns, x < 65536) ∧ ∀ (j : Nat) (x : Nat), ns[j]? = some x → cs[j]? = some (.i .u16 (x : Nat))
  | [], ns, h => by obtain rfl := Option.some.inj h; exact ⟨rfl, (fun x hx => by cases hx), fun j x hx => by simp at hx⟩
  | c :: cs, ns, h => by
    have key : ∃ n : Nat, c = .i .u16 (.ofNat n) := by
      cases c with
      | i k m =>
        cases k <;> first | (simp [numsC] at h; done) | skip
        cases m with
        | ofNat n => exact ⟨n, rfl⟩
        | negSucc n => simp [numsC] at h
      | _ => simp [numsC] at h
    obtain ⟨n, rfl⟩ := key
    simp only [numsC] at h
    rcases hb : Nat.blt n 65536 with _ | _
    · rw [hb] at h; cases h
    rw [hb] at h
    simp only [cond_true] at h
    split at h <;> first | (cases h; done) | skip
    rename_i r hr
    obtain rfl := Option.some.inj h
    obtain ⟨h1, h2, h3⟩ := numsC_ok hr
    refine ⟨by simp [h1], fun x hx => ?_, fun j x hx => ?_⟩
    · rcases List.mem_cons.1 hx with rfl | hx
      · simpa [Nat.blt_eq] using hb
      · exact h2 x hx
    · cases j with
      | zero =>
        simp only [List.getElem?_cons_zero, Option.some.injEq] at hx
        subst hx; rfl
      | succ j => simpa using h3 j x (by simpa using hx)
theorem hkWord_ok (hw : ∀ (g c : Nat) (ws : List Nat) (w : World), (∀ x ∈ ws, x < 65536) → ws.length ≤ 100 → (∀ (j x : Nat), ws[j]? = some x → w.cell? ⟨g, j, none⟩ = some (.int .u16 (x : Nat))) → g < w.heap.size → Calls P f #[.slice (some ⟨g, 0, none⟩) ws.length c] w (Ret1 (.string ⟨⟨wB ws⟩⟩) w)) :
    ∀ ps xs (σ : Hs) (K : KvR), Gd gl σ → (∀ s, hkWord ps xs σ.L s K = true) → CallN P f xs (some (kvP ps)) σ (Ks ps σ K) := by
  intro ps xs σ K _ h
  refine ⟨fun w hS ho => ?_⟩
  have h0 := h fun _ => 0
  unfold hkWord at h h0
  split at h0 <;> first | (cases h0; done) | skip
  rename_i j b l c
  simp only at h
  split at h0 <;> first | (cases h0; done) | skip
  rename_i b' u cs T he
  simp only [he] at h
  split at h0 <;> first | (cases h0; done) | skip
  rename_i cs2 ht
  simp only [ht] at h
  split at h0 <;> first | (cases h0; done) | skip
  rename_i ns hn
  simp only [hn] at h
  rcases hl : Nat.ble ns.length 100 with _ | _
  · rw [hl] at h0; cases h0
  simp only [hl, cond_true, forceL_eq] at h
  obtain ⟨t1, t2⟩ := takeN_ok ht
  obtain ⟨n1, n2, n3⟩ := numsC_ok hn
  obtain ⟨e, e1, e2, e3⟩ : ∃ e : Blk, σ.L[j]? = some e ∧ e.b = b ∧ e.u = 0 := ho _ (List.mem_singleton.2 rfl)
  rw [he] at e1
  obtain rfl := Option.some.inj e1
  simp only at e2 e3
  subst e2 e3
  have hm := List.mem_of_getElem? he
  have hlen : l = ns.length := by rw [n1, t2]
  subst hlen
  have := hw b' c ns w n2 (Nat.le_of_ble_eq_true hl) (fun j x hx => by
    have h1 := n3 j x hx
    rw [t1] at h1
    have h2 : cs[j]? = some (.i .u16 (x : Nat)) := by
      have hj : j < ns.length := (List.getElem?_eq_some_iff.1 hx).1
      rw [List.getElem?_take_of_lt hj] at h1
      exact h1
    have := (Blk.cell (hS.sat _ hm) rfl h2).1
    simp only [Nat.zero_add] at this
    exact this) (hS.lt _ hm)
  refine Calls.mono this fun e w' ⟨q1, q2⟩ => ⟨.e (.c (.v (.string ⟨⟨wB ns⟩⟩))), σ, q1, rfl, Ext.refl _, hS.nowr q2, KpW.refl _ _, KpW.refl _ _, Ext.refl _, h⟩
theorem hkWith_ok (hw : ∀ (l p : List UInt8) (i : Nat) (w : World), l.length ≤ 1000 → i ≤ 1000 → p.length ≤ 1000 → i + p.length ≤ l.length → Calls P f #[.string ⟨⟨l⟩⟩, .int .i64 (i : Nat), .string ⟨⟨p⟩⟩] w (Ret1 (.tuple #[.string ⟨⟨l.take i ++ p ++ l.drop (i + p.length)⟩⟩, .bool true]) w)) :
    ∀ ps xs (σ : Hs) (K : KvR), Gd gl σ → (∀ s, hkWith ps xs σ.L s K = true) → CallN P f xs (some (kvP ps)) σ (Ks ps σ K) := by
  intro ps xs σ K _ h
  refine ⟨fun w hS ho => ?_⟩
  have h0 := h fun _ => 0
  unfold hkWith at h h0
  split at h0 <;> first | (cases h0; done) | skip
  rename_i a i p
  simp only at h
  rcases hl : Nat.ble a.length 1000 && Nat.ble i 1000 && Nat.ble p.length 1000 && Nat.ble (i + p.length) a.length with _ | _
  · rw [hl] at h0; cases h0
  simp only [hl, cond_true, forceL_eq] at h
  simp only [Bool.and_eq_true, Nat.ble_eq] at hl
  obtain ⟨⟨⟨l1, l2⟩, l3⟩, l4⟩ := hl
  refine Calls.mono (hw a p i w l1 l2 l3 l4) fun e w' ⟨q1, q2⟩ => ⟨.t [.c (.v (.string ⟨⟨a.take i ++ p ++ a.drop (i + p.length)⟩⟩)), .c .tt], σ, q1, fun x hx => ?_, Ext.refl _, hS.nowr q2, KpW.refl _ _, KpW.refl _ _, Ext.refl _, h⟩
  simp only [List.mem_cons, List.not_mem_nil, or_false] at hx
  rcases hx with rfl | rfl
  · rfl
  · trivial
end
end
end Go.Proofs.YthmokdfigjffjaaGreatDoor

namespace Go.Proofs.YthmokdfigjffjaaGreatDoor
set_option linter.unusedVariables false
set_option linter.unusedSimpArgs false
open Go.RowKit
noncomputable def hk : Nat → Option (List Nat → List SV → Hp → Strm → KvR → Bool) := fun f => bif Nat.beq f 163 then some hkWord else bif Nat.beq f 218 then some hkWith else none
end Go.Proofs.YthmokdfigjffjaaGreatDoor

namespace Go.Proofs.YthmokdfigjffjaaGreatDoor
set_option linter.unusedVariables false
set_option linter.unusedSimpArgs false
open Go.RowKit
open Go.WideMaps (KeyLaw)
noncomputable section

def ptrE (tb : Tbx) (F : Fr) (L : Hp) : Op → Option SV
  | .binOp op T x y _ => (match tbl tb T, evO F x, evO F y with
    | some ⟨.ptr e, _, _⟩, some (.e (.c (.p j _ o))), some (.e (.c (.p j' _ o'))) => (match tbl tb e, L[j]?, L[j']? with
      | some r, some ⟨_, _, _, .obj _⟩, some ⟨_, _, _, .obj _⟩ => bif Nat.beq r.size 0 then none else eqK op (bif Nat.beq j j' then Nat.beq o o' else false)
      | _, _, _ => none)
    | _, _, _ => none)
  | _ => none
/-- What a pinned map tells. -/
def zOk : CV → Bool
  | .i _ _ => true
  | .v (.string _) => true
  | _ => false
def pinE (F : Fr) (L : Hp) : Op → Option SV
  | .lookup t x i c => (match evO F x, evO F i with
    | some (.e (.c (.m j _))), some (.e (.c (.i .u8 (.ofNat m)))) => (match L[j]? with
      | some ⟨_, _, cs, .pin t' _ z⟩ => bif Nat.beq t t' && (Nat.blt m 256 && zOk z) then some (pinV z c (pinR cs m)) else none
      | _ => none)
    | _, _ => none)
  | _ => none
noncomputable def rawY (P : Program) (tb : Tbx) (kl : List Nat) : List Nat → Nz → Oper → Fr → Hp → Strm → KvR → Bool := fun ps n o F L s K =>
  match ptrE tb F L o.op with
  | some v => K v L s
  | none => match pinE F L o.op with
    | some v => K v L s
    | none => rawX P tb kl ps n o F L s K
theorem obj_plain {w : World} {b u : Nat} {cs : List CV} {T : TypeId} (h : (Blk.mk b u cs (.obj T)).sat w) : Plain w b := by
  have hb : w.heap[b]? = some (.cells (cs.map CV.den).toArray T (0, 0)) := h.1
  exact ⟨by simp [World.shape?, hb], fun o => by simp [World.frozen?, hb]⟩
section
variable {P : Program} {tb : Tbx} {kl ps : List Nat} {n : Nz} {F : Fr} {σ : Hs} {a : Act} {w : World}
theorem ptrE_ok (hT : TbOk P tb) (hF : FrOk n a σ.L F) (hS : St σ w) {o : Oper} {v : SV} (h : ptrE tb F σ.L o.op = some v) : (execOp a.eval o).run P w = .ok (.value v.den) w ∧ v.ok σ.L := by
  obtain ⟨dst, op, ty, pos, after, gu⟩ := o
  simp only at h
  unfold ptrE at h
  split at h <;> first | (cases h; done) | skip
  rename_i bo T x y d
  split at h <;> first | (cases h; done) | skip
  rename_i e sz z j b o j' b' o' h1 h2 h3
  split at h <;> first | (cases h; done) | skip
  rename_i r b1 u1 c1 T1 b2 u2 c2 T2 h4 h5 h6
  rcases hz : Nat.beq r.size 0 with _ | _
  case true => rw [hz] at h; cases h
  rw [hz] at h
  simp only [cond_false] at h
  obtain ⟨e1, d1⟩ := evO_ok hF h2
  obtain ⟨e2, d2⟩ := evO_ok hF h3
  obtain ⟨q1, q2, q3, q4⟩ : ∃ e : Blk, σ.L[j]? = some e ∧ e.b = b ∧ e.u = 0 := d1
  obtain ⟨p1, p2, p3, p4⟩ : ∃ e : Blk, σ.L[j']? = some e ∧ e.b = b' ∧ e.u = 0 := d2
  rw [h5] at q2
  obtain rfl := Option.some.inj q2
  rw [h6] at p2
  obtain rfl := Option.some.inj p2
  simp only at q3 p3
  subst q3 p3
  obtain ⟨i, hi, hs, _⟩ := vr_info (tbl_ok hT h4)
  have hcs : P.cellsOf e ≠ 0 := by
    simp only [Program.cellsOf, hi]
    intro q
    have q : i.size = 0 := q
    rw [hs] at q
    rw [q] at hz; cases hz
  have A := obj_plain (hS.sat _ (List.mem_of_getElem? h5))
  have B := obj_plain (hS.sat _ (List.mem_of_getElem? h6))
  have hu := und_ptr (tbl_d hT h1)
  have heq := run_equal_ptr (P := P) (w := w) (a := ⟨b1, o, none⟩) (b := ⟨b2, o', none⟩) hu hcs rfl rfl A B
  have hbb : ((⟨b1, o, none⟩ : Addr) == ⟨b2, o', none⟩) = (bif Nat.beq j j' then Nat.beq o o' else false) := by
    rcases hj : Nat.beq j j' with _ | _
    · have hne : j ≠ j' := fun q => by subst q; simp at hj
      have : b1 ≠ b2 := fun q => by
        rcases hS.nd j j' _ _ h5 h6 hne q with q | q
        · cases q.1
        · cases q.1
      simp [this]
    · obtain rfl := Nat.eq_of_beq_eq_true hj
      rw [h5] at h6
      simp only [Option.some.injEq, Blk.mk.injEq] at h6
      obtain ⟨rfl, _⟩ := h6
      rcases ho : Nat.beq o o' with _ | _
      · have : o ≠ o' := fun q => by subst q; simp at ho
        simp [this]
      · obtain rfl := Nat.eq_of_beq_eq_true ho
        simp
  rw [hbb] at heq
  obtain ⟨r1, r2⟩ := eqK_ok (P := P) (w := w) (L := σ.L) (T := T) (x := .pointer (some ⟨b1, o, none⟩)) (y := .pointer (some ⟨b2, o', none⟩)) trivial h heq
  refine ⟨?_, r2⟩
  simp only [SV.den, EV.den, CV.den] at e1 e2
  have hg : (eqGuard bo T x y (.pointer (some ⟨b1, o, none⟩)) (.pointer (some ⟨b2, o', none⟩))).run P w = .ok () w := by cases bo <;> first | rfl | simp [eqGuard]
  simp only [execOp, e1, e2, Sem.run_bind, hg, r1, Result.andThen_ok, Sem.run_pure]
theorem pinR_mem : ∀ {cs : List CV} {m : Nat} {v : CV}, pinR cs m = some v → v ∈ cs
  | .i _ (.ofNat a) :: v :: r, m, y, h => by
    simp only [pinR] at h
    rcases hb : Nat.beq a m with _ | _
    · rw [hb] at h; exact List.mem_cons_of_mem _ (List.mem_cons_of_mem _ (pinR_mem h))
    · rw [hb] at h; obtain rfl := Option.some.inj h; exact List.mem_cons_of_mem _ (List.mem_cons_self ..)
  | [], m, y, h => by cases h
  | [x], m, y, h => by unfold pinR at h; split at h <;> first | (cases h; done) | (rename_i q; cases q)
  | .i _ (.negSucc _) :: _ :: _, m, y, h => by cases h
  | .v _ :: _ :: _, m, y, h => by cases h
  | .b _ :: _ :: _, m, y, h => by cases h
  | .tt :: _ :: _, m, y, h => by cases h
  | .ff :: _ :: _, m, y, h => by cases h
  | .p .. :: _ :: _, m, y, h => by cases h
  | .q .. :: _ :: _, m, y, h => by cases h
  | .s .. :: _ :: _, m, y, h => by cases h
  | .gs .. :: _ :: _, m, y, h => by cases h
  | .f .. :: _ :: _, m, y, h => by cases h
  | .m .. :: _ :: _, m, y, h => by cases h
  | .y .. :: _ :: _, m, y, h => by cases h
theorem zOk_ok {z : CV} (h : zOk z = true) (L : Hp) : z.ok L := by
  unfold zOk at h
  split at h
  · trivial
  · rfl
  · cases h
theorem pinE_ok (hF : FrOk n a σ.L F) (hS : St σ w) {o : Oper} {v : SV} (h : pinE F σ.L o.op = some v) : (execOp a.eval o).run Tryz.prog w = .ok (.value v.den) w ∧ v.ok σ.L := by
  obtain ⟨dst, op, ty, pos, after, gu⟩ := o
  simp only at h
  unfold pinE at h
  split at h <;> first | (cases h; done) | skip
  rename_i t x i c
  split at h <;> first | (cases h; done) | skip
  rename_i j b m h1 h2
  split at h <;> first | (cases h; done) | skip
  rename_i b' u cs t' o z h3
  rcases hb : Nat.beq t t' && (Nat.blt m 256 && zOk z) with _ | _
  · rw [hb] at h; cases h
  rw [hb] at h
  obtain rfl := Option.some.inj h
  simp only [Bool.and_eq_true, Nat.blt_eq] at hb
  obtain ⟨hb1, hb2, hb3⟩ := hb
  obtain rfl := Nat.eq_of_beq_eq_true hb1
  obtain ⟨e1, d1⟩ := evO_ok hF h1
  obtain ⟨e2, d2⟩ := evO_ok hF h2
  obtain ⟨q1, q2, q3⟩ : ∃ e : Blk, σ.L[j]? = some e ∧ e.b = b := d1
  rw [h3] at q2
  obtain rfl := Option.some.inj q2
  simp only at q3
  subst q3
  have hm := List.mem_of_getElem? h3
  obtain ⟨s1, s2⟩ := hS.sat _ hm
  have hrun := s2 w s1 m c hb2
  have hz := zOk_ok hb3 σ.L
  refine ⟨?_, ?_⟩
  · simp only [SV.den, EV.den, CV.den] at e1 e2
    simp only [execOp, e1, e2, Sem.run_bind, Result.andThen_ok, Sem.run_pure]
    rw [show (Value.int IntKind.u8 (Int.ofNat m)) = Value.int .u8 (m : Int) from rfl, hrun]
    rfl
  · rcases hp : pinR cs m with _ | v
    · cases c
      · exact hz
      · intro y hy
        simp only [pinV, List.mem_cons, List.not_mem_nil, or_false] at hy
        rcases hy with rfl | rfl
        · exact hz
        · trivial
    · have hv := hS.ok _ hm v (pinR_mem hp)
      cases c
      · exact hv
      · intro y hy
        simp only [pinV, List.mem_cons, List.not_mem_nil, or_false] at hy
        rcases hy with rfl | rfl
        · exact hv
        · trivial
theorem rawY_ok {tb : Tbx} {kl : List Nat} (hT : TbOk Tryz.prog tb) (hK : ∀ k ∈ kl, KeyLaw Tryz.prog k) (gl : Gl) : RawOk Tryz.prog gl (rawY Tryz.prog tb kl) := fun ps n o F σ K hg h => by
  unfold rawY at h
  rcases hp : ptrE tb F σ.L o.op with _ | v
  · simp only [hp] at h
    rcases hq : pinE F σ.L o.op with _ | v
    · simp only [hq] at h
      exact rawX_ok hT hK gl ps n o F σ K hg h
    · simp only [hq] at h
      exact raw_of fun a w hF hS => ⟨v, σ, w, Or.inl (pinE_ok hF hS hq).1, Pst.same (pinE_ok hF hS hq).2 hS h⟩
  · simp only [hp] at h
    exact raw_of fun a w hF hS => ⟨v, σ, w, Or.inl (ptrE_ok hT hF hS hp).1, Pst.same (ptrE_ok hT hF hS hp).2 hS h⟩
end
end
end Go.Proofs.YthmokdfigjffjaaGreatDoor

namespace Go.Proofs.YthmokdfigjffjaaGreatDoor
open Go.RowKit
def tb : Tbx := [(3, ⟨.int .i64, 1, [.i .i64 0]⟩),
  (34, ⟨.struct true [(0, 1, 1, 23), (1, 1, 1, 32)], 2, [.i .u32 0, .i .u16 0]⟩),
  (40, ⟨.struct true [(0, 1, 1, 5), (1, 2, 2, 34), (3, 2, 2, 34)], 5, [.i .u8 0, .i .u32 0, .i .u16 0, .i .u32 0, .i .u16 0]⟩),
  (9, ⟨.str, 1, [.v (.string ⟨#[]⟩)]⟩),
  (32, ⟨.int .u16, 1, [.i .u16 0]⟩),
  (5, ⟨.int .u8, 1, [.i .u8 0]⟩),
  (43, ⟨.struct true [(0, 5, 2, 40), (5, 5, 2, 40), (10, 1, 1, 3), (11, 1, 1, 3), (12, 1, 1, 41)], 13, [.i .u8 0, .i .u32 0, .i .u16 0, .i .u32 0, .i .u16 0, .i .u8 0, .i .u32 0, .i .u16 0, .i .u32 0, .i .u16 0, .i .i64 0, .i .i64 0, .v (.slice none 0 0)]⟩),
  (36, ⟨.struct true [(0, 1, 1, 3), (1, 1, 1, 5), (2, 2, 2, 25), (4, 2, 2, 25), (6, 1, 1, 23), (7, 1, 1, 32), (8, 1, 1, 32), (9, 2, 2, 34)], 11, [.i .i64 0, .i .u8 0, .i .u32 0, .i .i64 0, .i .u32 0, .i .i64 0, .i .u32 0, .i .u16 0, .i .u16 0, .i .u32 0, .i .u16 0]⟩),
  (259, ⟨.struct true [(0, 1, 1, 3), (1, 2, 2, 45)], 3, [.i .i64 0, .i .i64 0, .i .u32 0]⟩),
  (45, ⟨.struct true [(0, 1, 1, 3), (1, 1, 1, 22)], 2, [.i .i64 0, .i .u32 0]⟩),
  (257, ⟨.slice 259, 1, [.v (.slice none 0 0)]⟩),
  (22, ⟨.int .u32, 1, [.i .u32 0]⟩),
  (23, ⟨.int .u32, 1, [.i .u32 0]⟩),
  (90, ⟨.struct true [(0, 1, 1, 81), (1, 1, 1, 3), (2, 1, 1, 3), (3, 1, 1, 82), (4, 1, 1, 83), (5, 1, 1, 84), (6, 1, 1, 85), (7, 1, 1, 86), (8, 1, 1, 87), (9, 1, 1, 88)], 10, [.v (.pointer none), .i .i64 0, .i .i64 0, .v (.pointer none), .v (.slice none 0 0), .v (.pointer none), .v (.pointer none), .v (.slice none 0 0), .v (.pointer none), .v (.slice none 0 0)]⟩),
  (47, ⟨.struct true [(0, 2, 2, 45), (2, 1, 1, 4)], 3, [.i .i64 0, .i .u32 0, .ff]⟩),
  (172, ⟨.struct true [(0, 5, 2, 40), (5, 2, 2, 34), (7, 1, 1, 4), (8, 1, 1, 3), (9, 1, 1, 170)], 10, [.i .u8 0, .i .u32 0, .i .u16 0, .i .u32 0, .i .u16 0, .i .u32 0, .i .u16 0, .ff, .i .i64 0, .v (.slice none 0 0)]⟩),
  (271, ⟨.struct true [(0, 2, 2, 34), (2, 2, 2, 34)], 4, [.i .u32 0, .i .u16 0, .i .u32 0, .i .u16 0]⟩),
  (342, ⟨.struct true [(0, 1, 2, 340), (1, 1, 1, 3), (2, 5, 2, 40), (7, 1, 1, 4)], 8, [.v (.string ⟨#[]⟩), .i .i64 0, .i .u8 0, .i .u32 0, .i .u16 0, .i .u32 0, .i .u16 0, .ff]⟩),
  (51, ⟨.int .i64, 1, [.i .i64 0]⟩),
  (146, ⟨.struct true [(0, 5, 2, 40), (5, 1, 1, 3), (6, 1, 1, 5), (7, 1, 1, 4), (8, 1, 1, 5)], 9, [.i .u8 0, .i .u32 0, .i .u16 0, .i .u32 0, .i .u16 0, .i .i64 0, .i .u8 0, .ff, .i .u8 0]⟩),
  (314, ⟨.int .u64, 1, [.i .u64 0]⟩),
  (83, ⟨.slice 129, 1, [.v (.slice none 0 0)]⟩),
  (25, ⟨.struct true [(0, 1, 1, 23), (1, 1, 1, 3)], 2, [.i .u32 0, .i .i64 0]⟩),
  (78, ⟨.slice 43, 1, [.v (.slice none 0 0)]⟩),
  (335, ⟨.struct true [(0, 1, 1, 5), (1, 1, 1, 5), (2, 1, 1, 32), (3, 1, 1, 9), (4, 1, 1, 9)], 5, [.i .u8 0, .i .u8 0, .i .u16 0, .v (.string ⟨#[]⟩), .v (.string ⟨#[]⟩)]⟩),
  (183, ⟨.slice 36, 1, [.v (.slice none 0 0)]⟩),
  (178, ⟨.struct true [(0, 1, 1, 4), (1, 2, 2, 34), (3, 2, 2, 34), (5, 1, 1, 23), (6, 1, 1, 32), (7, 1, 1, 32)], 8, [.ff, .i .u32 0, .i .u16 0, .i .u32 0, .i .u16 0, .i .u32 0, .i .u16 0, .i .u16 0]⟩),
  (329, ⟨.struct true [(0, 1, 1, 5), (1, 1, 1, 32), (2, 1, 1, 4), (3, 1, 1, 5), (4, 1, 1, 5), (5, 1, 1, 23), (6, 1, 1, 23), (7, 1, 1, 9)], 8, [.i .u8 0, .i .u16 0, .ff, .i .u8 0, .i .u8 0, .i .u32 0, .i .u32 0, .v (.string ⟨#[]⟩)]⟩),
  (148, ⟨.struct true [(0, 9, 2, 146), (9, 5, 2, 40)], 14, [.i .u8 0, .i .u32 0, .i .u16 0, .i .u32 0, .i .u16 0, .i .i64 0, .i .u8 0, .ff, .i .u8 0, .i .u8 0, .i .u32 0, .i .u16 0, .i .u32 0, .i .u16 0]⟩),
  (238, ⟨.struct true [(0, 1, 1, 5), (1, 2, 2, 34), (3, 2, 2, 34), (5, 1, 1, 3), (6, 1, 1, 3)], 7, [.i .u8 0, .i .u32 0, .i .u16 0, .i .u32 0, .i .u16 0, .i .i64 0, .i .i64 0]⟩),
  (75, ⟨.slice 3, 1, [.v (.slice none 0 0)]⟩),
  (307, ⟨.struct true [(0, 1, 1, 5), (1, 2, 2, 34), (3, 1, 1, 23), (4, 1, 1, 32), (5, 1, 1, 32), (6, 1, 1, 32)], 7, [.i .u8 0, .i .u32 0, .i .u16 0, .i .u32 0, .i .u16 0, .i .u16 0, .i .u16 0]⟩),
  (311, ⟨.int .u64, 1, [.i .u64 0]⟩),
  (4, ⟨.bool, 1, [.ff]⟩),
  (129, ⟨.struct true [(0, 1, 1, 4), (1, 1, 1, 4), (2, 1, 1, 4), (3, 13, 2, 43)], 16, [.ff, .ff, .ff, .i .u8 0, .i .u32 0, .i .u16 0, .i .u32 0, .i .u16 0, .i .u8 0, .i .u32 0, .i .u16 0, .i .u32 0, .i .u16 0, .i .i64 0, .i .i64 0, .v (.slice none 0 0)]⟩),
  (280, ⟨.struct true [(0, 1, 1, 5), (1, 1, 1, 5), (2, 1, 1, 32), (3, 1, 1, 9), (4, 1, 1, 9)], 5, [.i .u8 0, .i .u8 0, .i .u16 0, .v (.string ⟨#[]⟩), .v (.string ⟨#[]⟩)]⟩),
  (41, ⟨.slice 140, 1, [.v (.slice none 0 0)]⟩),
  (451, ⟨.struct true [(0, 1, 1, 32), (1, 1, 1, 32), (2, 1, 1, 22), (3, 1, 1, 22), (4, 1, 1, 5), (5, 1, 1, 5), (6, 1, 1, 32), (7, 1, 1, 32), (8, 1, 1, 32), (9, 1, 1, 9)], 10, [.i .u16 0, .i .u16 0, .i .u32 0, .i .u32 0, .i .u8 0, .i .u8 0, .i .u16 0, .i .u16 0, .i .u16 0, .v (.string ⟨#[]⟩)]⟩),
  (30, ⟨.struct true [(0, 1, 1, 5), (1, 1, 1, 5), (2, 1, 1, 5), (3, 1, 1, 5), (4, 1, 1, 5), (5, 2, 2, 28), (7, 1, 1, 5), (8, 1, 1, 9)], 9, [.i .u8 0, .i .u8 0, .i .u8 0, .i .u8 0, .i .u8 0, .i .u8 0, .i .u8 0, .i .u8 0, .v (.string ⟨#[]⟩)]⟩),
  (355, ⟨.slice 5, 1, [.v (.slice none 0 0)]⟩),
  (140, ⟨.struct true [(0, 2, 2, 34), (2, 2, 2, 34)], 4, [.i .u32 0, .i .u16 0, .i .u32 0, .i .u16 0]⟩),
  (81, ⟨.ptr 185, 1, [.v (.pointer none)]⟩),
  (191, ⟨.struct true [(0, 512, 2, 188), (512, 1, 1, 3), (513, 3, 2, 189)], 516, repN 256 [.i .i64 0, .i .u32 0] ++ [.i .i64 0] ++ [.i .i64 0, .i .i64 0, .i .i64 0]⟩),
  (283, ⟨.struct true [(0, 1, 1, 5), (1, 1, 1, 32), (2, 1, 1, 4), (3, 1, 1, 5), (4, 1, 1, 5), (5, 1, 1, 23), (6, 1, 1, 23), (7, 1, 1, 9)], 8, [.i .u8 0, .i .u16 0, .ff, .i .u8 0, .i .u8 0, .i .u32 0, .i .u32 0, .v (.string ⟨#[]⟩)]⟩),
  (359, ⟨.slice 9, 1, [.v (.slice none 0 0)]⟩),
  (467, ⟨.int .u64, 1, [.i .u64 0]⟩),
  (206, ⟨.struct true [(0, 1, 1, 3), (1, 1, 1, 75), (2, 1, 1, 204)], 3, [.i .i64 0, .v (.slice none 0 0), .v (.slice none 0 0)]⟩),
  (294, ⟨.struct true [(0, 1, 1, 3), (1, 1, 1, 3)], 2, [.i .i64 0, .i .i64 0]⟩),
  (413, ⟨.slice 32, 1, [.v (.slice none 0 0)]⟩),
  (351, ⟨.struct true [(0, 1, 1, 4), (1, 1, 1, 5)], 2, [.ff, .i .u8 0]⟩),
  (170, ⟨.slice 178, 1, [.v (.slice none 0 0)]⟩),
  (210, ⟨.struct true [(0, 1, 1, 207), (1, 1, 1, 208), (2, 1, 1, 3)], 3, [.v (.slice none 0 0), .v (.map none), .i .i64 0]⟩),
  (340, ⟨.struct true [(0, 1, 1, 9)], 1, [.v (.string ⟨#[]⟩)]⟩),
  (204, ⟨.slice 294, 1, [.v (.slice none 0 0)]⟩),
  (362, ⟨.struct true [(0, 1, 1, 32), (1, 1, 1, 32), (2, 1, 1, 22), (3, 1, 1, 22), (4, 1, 1, 5), (5, 1, 1, 5), (6, 1, 1, 32), (7, 1, 1, 32), (8, 1, 1, 32), (9, 1, 1, 9)], 10, [.i .u16 0, .i .u16 0, .i .u32 0, .i .u32 0, .i .u8 0, .i .u8 0, .i .u16 0, .i .u16 0, .i .u16 0, .v (.string ⟨#[]⟩)]⟩),
  (82, ⟨.ptr 191, 1, [.v (.pointer none)]⟩),
  (88, ⟨.slice 45, 1, [.v (.slice none 0 0)]⟩),
  (195, ⟨.struct true [(0, 1, 1, 192), (1, 1, 1, 193)], 2, [.v (.slice none 0 0), .v (.map none)]⟩),
  (199, ⟨.struct true [(0, 1, 1, 197), (1, 1, 1, 197), (2, 3, 2, 47), (5, 1, 1, 3)], 6, [.v (.pointer none), .v (.pointer none), .i .i64 0, .i .u32 0, .ff, .i .i64 0]⟩),
  (334, ⟨.struct true [(0, 8, 2, 329), (8, 1, 1, 9), (9, 9, 2, 146)], 18, [.i .u8 0, .i .u16 0, .ff, .i .u8 0, .i .u8 0, .i .u32 0, .i .u32 0, .v (.string ⟨#[]⟩), .v (.string ⟨#[]⟩), .i .u8 0, .i .u32 0, .i .u16 0, .i .u32 0, .i .u16 0, .i .i64 0, .i .u8 0, .ff, .i .u8 0]⟩),
  (27, ⟨.struct true [(0, 1, 1, 23), (1, 2, 2, 25), (3, 1, 1, 3), (4, 1, 1, 3), (5, 1, 1, 3), (6, 1, 1, 3)], 7, [.i .u32 0, .i .u32 0, .i .i64 0, .i .i64 0, .i .i64 0, .i .i64 0, .i .i64 0]⟩),
  (185, ⟨.struct true [(0, 1, 1, 4), (1, 1, 1, 23), (2, 2, 2, 25), (4, 1, 1, 183)], 5, [.ff, .i .u32 0, .i .u32 0, .i .i64 0, .v (.slice none 0 0)]⟩),
  (187, ⟨.struct true [(0, 1, 1, 3), (1, 1, 1, 22)], 2, [.i .i64 0, .i .u32 0]⟩),
  (192, ⟨.slice 201, 1, [.v (.slice none 0 0)]⟩),
  (207, ⟨.slice 257, 1, [.v (.slice none 0 0)]⟩),
  (215, ⟨.struct true [(0, 1, 1, 212), (1, 1, 1, 213)], 2, [.v (.map none), .v (.map none)]⟩),
  (87, ⟨.ptr 215, 1, [.v (.pointer none)]⟩),
  (455, ⟨.struct true [(0, 1, 1, 32), (1, 1, 1, 32), (2, 1, 1, 32), (3, 1, 1, 32)], 4, [.i .u16 0, .i .u16 0, .i .u16 0, .i .u16 0]⟩),
  (480, ⟨.array 4 32, 4, [.i .u16 0, .i .u16 0, .i .u16 0, .i .u16 0]⟩),
  (86, ⟨.slice 100, 1, [.v (.slice none 0 0)]⟩),
  (416, ⟨.struct true [(0, 1, 1, 414), (1, 1, 1, 355)], 2, [.v (.pointer none), .v (.slice none 0 0)]⟩),
  (57, ⟨.struct true [(0, 1, 1, 23), (1, 2, 2, 25), (3, 1, 1, 3), (4, 1, 1, 3), (5, 1, 1, 3), (6, 1, 1, 3)], 7, [.i .u32 0, .i .u32 0, .i .i64 0, .i .i64 0, .i .i64 0, .i .i64 0, .i .i64 0]⟩),
  (84, ⟨.ptr 195, 1, [.v (.pointer none)]⟩),
  (328, ⟨.struct true [(0, 1, 1, 5), (1, 2, 2, 34)], 3, [.i .u8 0, .i .u32 0, .i .u16 0]⟩),
  (482, ⟨.map 5 3, 1, [.v (.map none)]⟩),
  (189, ⟨.array 3 3, 3, [.i .i64 0, .i .i64 0, .i .i64 0]⟩),
  (250, ⟨.struct true [(0, 6, 2, 199)], 6, [.v (.pointer none), .v (.pointer none), .i .i64 0, .i .u32 0, .ff, .i .i64 0]⟩),
  (197, ⟨.ptr 199, 1, [.v (.pointer none)]⟩),
  (212, ⟨.map 328 251, 1, [.v (.map none)]⟩),
  (188, ⟨.array 256 187, 512, repN 256 [.i .i64 0, .i .u32 0]⟩),
  (201, ⟨.struct true [(0, 6, 2, 199)], 6, [.v (.pointer none), .v (.pointer none), .i .i64 0, .i .u32 0, .ff, .i .i64 0]⟩),
  (193, ⟨.map 47 249, 1, [.v (.map none)]⟩),
  (414, ⟨.ptr 416, 1, [.v (.pointer none)]⟩),
  (85, ⟨.ptr 206, 1, [.v (.pointer none)]⟩),
  (180, ⟨.slice 34, 1, [.v (.slice none 0 0)]⟩),
  (133, ⟨.ptr 129, 1, [.v (.pointer none)]⟩),
  (241, ⟨.slice 47, 1, [.v (.slice none 0 0)]⟩),
  (208, ⟨.map 45 255, 1, [.v (.map none)]⟩),
  (318, ⟨.map 5 9, 1, [.v (.map none)]⟩),
  (353, ⟨.array 8 3, 8, [.i .i64 0, .i .i64 0, .i .i64 0, .i .i64 0, .i .i64 0, .i .i64 0, .i .i64 0, .i .i64 0]⟩),
  (366, ⟨.struct true [(0, 1, 1, 32), (1, 1, 1, 32), (2, 1, 1, 32), (3, 1, 1, 32)], 4, [.i .u16 0, .i .u16 0, .i .u16 0, .i .u16 0]⟩),
  (49, ⟨.struct true [(0, 1, 1, 5), (1, 9, 2, 30), (10, 3, 2, 31), (13, 1, 1, 3), (14, 1, 1, 32), (15, 16, 2, 38), (31, 13, 2, 43), (44, 3, 2, 47)], 47, [.i .u8 0, .i .u8 0, .i .u8 0, .i .u8 0, .i .u8 0, .i .u8 0, .i .u8 0, .i .u8 0, .i .u8 0, .v (.string ⟨#[]⟩), .i .u8 0, .i .u8 0, .i .u8 0, .i .i64 0, .i .u16 0, .i .u8 0, .i .u8 0, .i .u8 0, .i .u8 0, .i .u8 0, .i .i64 0, .i .u8 0, .i .u32 0, .i .i64 0, .i .u32 0, .i .i64 0, .i .u32 0, .i .u16 0, .i .u16 0, .i .u32 0, .i .u16 0, .i .u8 0, .i .u32 0, .i .u16 0, .i .u32 0, .i .u16 0, .i .u8 0, .i .u32 0, .i .u16 0, .i .u32 0, .i .u16 0, .i .i64 0, .i .i64 0, .v (.slice none 0 0), .i .i64 0, .i .u32 0, .ff]⟩),
  (127, ⟨.struct true [(0, 1, 1, 105), (1, 1, 1, 3), (2, 1, 1, 3), (3, 1, 1, 108), (4, 1, 1, 120), (5, 1, 1, 111), (6, 1, 1, 114), (7, 1, 1, 125), (8, 1, 1, 121), (9, 1, 1, 88)], 10, [.v (.pointer none), .i .i64 0, .i .i64 0, .v (.pointer none), .v (.slice none 0 0), .v (.pointer none), .v (.pointer none), .v (.slice none 0 0), .v (.pointer none), .v (.slice none 0 0)]⟩),
  (100, ⟨.ptr 210, 1, [.v (.pointer none)]⟩),
  (220, ⟨.struct true [(0, 1, 1, 218)], 1, [.v (.slice none 0 0)]⟩),
  (228, ⟨.struct true [(0, 1, 1, 3), (1, 1, 1, 75), (2, 1, 1, 226)], 3, [.i .i64 0, .v (.slice none 0 0), .v (.slice none 0 0)]⟩),
  (249, ⟨.ptr 250, 1, [.v (.pointer none)]⟩),
  (213, ⟨.map 328 34, 1, [.v (.map none)]⟩),
  (489, ⟨.slice 479, 1, [.v (.slice none 0 0)]⟩),
  (50, ⟨.ptr 90, 1, [.v (.pointer none)]⟩),
  (211, ⟨.slice 51, 1, [.v (.slice none 0 0)]⟩),
  (125, ⟨.slice 117, 1, [.v (.slice none 0 0)]⟩),
  (218, ⟨.slice 222, 1, [.v (.slice none 0 0)]⟩),
  (255, ⟨.struct true [(0, 1, 1, 3), (1, 1, 1, 3)], 2, [.i .i64 0, .i .i64 0]⟩),
  (251, ⟨.ptr 238, 1, [.v (.pointer none)]⟩),
  (354, ⟨.array 4 353, 32, [.i .i64 0, .i .i64 0, .i .i64 0, .i .i64 0, .i .i64 0, .i .i64 0, .i .i64 0, .i .i64 0, .i .i64 0, .i .i64 0, .i .i64 0, .i .i64 0, .i .i64 0, .i .i64 0, .i .i64 0, .i .i64 0, .i .i64 0, .i .i64 0, .i .i64 0, .i .i64 0, .i .i64 0, .i .i64 0, .i .i64 0, .i .i64 0, .i .i64 0, .i .i64 0, .i .i64 0, .i .i64 0, .i .i64 0, .i .i64 0, .i .i64 0, .i .i64 0]⟩),
  (124, ⟨.struct true [(0, 1, 1, 122)], 1, [.v (.slice none 0 0)]⟩),
  (217, ⟨.struct true [(0, 1, 1, 23), (1, 2, 2, 25), (3, 1, 1, 183)], 4, [.i .u32 0, .i .u32 0, .i .i64 0, .v (.slice none 0 0)]⟩),
  (222, ⟨.struct true [(0, 1, 1, 3), (1, 1, 1, 22)], 2, [.i .i64 0, .i .u32 0]⟩),
  (225, ⟨.struct true [(0, 1, 1, 223)], 1, [.v (.slice none 0 0)]⟩),
  (231, ⟨.struct true [(0, 1, 1, 3), (1, 1, 1, 229)], 2, [.i .i64 0, .v (.slice none 0 0)]⟩),
  (232, ⟨.slice 187, 1, [.v (.slice none 0 0)]⟩),
  (285, ⟨.array 8 23, 8, [.i .u32 0, .i .u32 0, .i .u32 0, .i .u32 0, .i .u32 0, .i .u32 0, .i .u32 0, .i .u32 0]⟩),
  (286, ⟨.array 16 32, 16, [.i .u16 0, .i .u16 0, .i .u16 0, .i .u16 0, .i .u16 0, .i .u16 0, .i .u16 0, .i .u16 0, .i .u16 0, .i .u16 0, .i .u16 0, .i .u16 0, .i .u16 0, .i .u16 0, .i .u16 0, .i .u16 0]⟩),
  (287, ⟨.array 4 5, 4, [.i .u8 0, .i .u8 0, .i .u8 0, .i .u8 0]⟩),
  (28, ⟨.array 2 5, 2, [.i .u8 0, .i .u8 0]⟩),
  (427, ⟨.int .i64, 1, [.i .i64 0]⟩),
  (447, ⟨.array 2 4, 2, [.ff, .ff]⟩),
  (479, ⟨.ptr 32, 1, [.v (.pointer none)]⟩),
  (120, ⟨.slice 511, 1, [.v (.slice none 0 0)]⟩),
  (223, ⟨.slice 514, 1, [.v (.slice none 0 0)]⟩),
  (511, ⟨.struct true [(0, 1, 1, 4), (1, 1, 1, 4), (2, 1, 1, 4), (3, 13, 2, 509), (16, 2, 2, 45)], 18, [.ff, .ff, .ff, .i .u8 0, .i .u32 0, .i .u16 0, .i .u32 0, .i .u16 0, .i .u8 0, .i .u32 0, .i .u16 0, .i .u32 0, .i .u16 0, .i .i64 0, .i .i64 0, .v (.slice none 0 0), .i .i64 0, .i .u32 0]⟩),
  (117, ⟨.ptr 231, 1, [.v (.pointer none)]⟩),
  (514, ⟨.slice 520, 1, [.v (.slice none 0 0)]⟩)]
def fo : Fo := (334, [0, 1, 278, 288, 298, 299, 300, 301, 302, 303, 304, 305, 306, 307, 308, 309, 310, 311, 312, 313, 314, 315, 316, 317, 318, 319, 320, 321, 322, 323, 324, 325, 326, 327, 328, 329, 330, 331, 332])
theorem tb_ok : TbOk Tryz.prog tb := by unfold TbOk; kernel_rfl
theorem fn_ok : (List.range fo.1).all (fun f => fo.2.any (Nat.beq f) || enterOk Tryz.prog f) = true := by kernel_rfl
theorem cx : CxOk Tryz.prog tb fo := ⟨tb_ok, fn_ok, by kernel_rfl⟩
end Go.Proofs.YthmokdfigjffjaaGreatDoor

namespace Go.Proofs.YthmokdfigjffjaaGreatDoor
open Go.RowKit
def ptl : List (Nat × List (Nat × Pl)) := [
  (3, [(11, pl [0, 2, 4, 6, 9, 11, 13, 14, 16, 18, 20, 22])]),
  (4, [(9, plc [0, 2, 4, 6, 10, 12] (.b 4 (pl [15, 16, 19, 20]) (.x 7 (pl [9, 16, 19, 20]))))]),
  (6, [(5, plc [0, 2, 4, 6, 8, 10, 12, 14] (.l 8))]),
  (7, [(5, pl [0, 2, 4, 6, 9, 11, 12, 14]), (7, pl [0, 2, 4, 6, 8, 11, 12, 14, 17, 18]), (17, pl [0, 2, 4, 6, 8, 11, 12, 14]), (19, pl [0, 2, 4, 6, 8, 10, 12, 15, 17, 19, 20, 22, 24, 26, 28]), (20, plc [0, 2, 4, 6, 8, 11, 12] (.l 7)), (21, plc [0, 2, 4, 6, 8, 11, 12] (.l 7)), (25, plc [0, 2, 4, 6, 8, 10, 12, 14, 17] (.l 9)), (27, plc [0, 2, 4, 6, 8, 10, 12, 14, 17, 19] (.l 10))]),
  (8, [(7, pl [0, 2, 4, 6, 8, 11, 12, 14, 16, 18, 20, 24, 26, 23, 28, 30]), (9, pl [0, 2, 4, 6, 8, 10, 12, 14, 17, 19, 20, 22, 24, 26, 28]), (11, plc [0, 2, 4, 6, 8, 10, 12, 14, 16, 18, 20, 22, 24] (.z 17 (pl [27, 28, 30, 32, 35, 37, 38])))]),
  (9, [(3, pl [0, 2, 8, 16, 20, 5, 6, 11, 12, 14, 19, 23, 25, 27, 28]), (5, pl [0, 4, 3, 7, 9, 10]), (8, pl [0, 4, 3, 7, 9, 10])]),
  (11, [(5, plc [0, 2, 4, 6, 8, 10, 12, 14, 16, 19] (.l 10)), (6, plc [0, 2, 4, 6, 9, 10] (.l 6)), (7, plc [0, 2, 4, 6, 9, 10] (.l 6)), (11, plc [0, 2, 4, 6, 8, 10, 12, 14, 17] (.l 9)), (13, plc [0, 2, 4, 6, 8, 10, 12, 14] (.l 8)), (14, plc [0, 2, 4, 6, 9] (.l 5)), (15, plc [0, 2, 4, 6, 8, 11] (.l 6))]),
  (12, [(11, pl [0, 2, 4, 6, 8, 11, 12, 14]), (14, pl [0, 2, 4, 6, 9, 11, 12, 14, 16, 18, 20, 23, 24, 26]), (16, plc [0, 2, 4, 6, 8, 11, 13] (.l 7))]),
  (15, [(3, pl [0, 2, 4, 6, 9, 11, 12, 14, 16, 18, 20, 22, 25, 26, 28, 31, 32]), (5, pl [0, 2, 4, 6, 9, 11, 12]), (7, plc [0, 2, 4, 6, 8, 10, 12, 14] (.l 8))]),
  (27, [(8, plc [0, 2, 4, 6, 8, 10] (.l 6))]),
  (38, [(3, pl [0, 2, 4, 6, 8, 10, 12, 14, 16, 18])]),
  (39, [(3, pl [0, 2, 4, 8, 10, 7, 13, 14, 16])]),
  (40, [(1, pl [0, 2, 5, 7, 8, 10, 12, 14, 16, 18, 20, 22, 24, 26, 28, 31, 32, 34, 36])]),
  (41, [(4, plc [0, 2, 4, 6, 8, 10, 12, 14, 16] (.z 13 (pl [19, 20, 22, 24, 27, 29, 30])))]),
  (42, [(1, pl [0, 2, 4, 6, 8, 10, 18, 13, 15, 16]), (5, pl [0, 2, 4, 6, 8, 11, 12, 14, 16, 18, 22, 21, 24, 26])]),
  (44, [(1, pl [0, 2, 6, 8, 5, 11, 12, 14])]),
  (46, [(5, pl [0, 2, 4, 6, 9, 11, 12, 14]), (9, plc [0, 2, 4, 6, 8, 10, 12, 15] (.l 8)), (10, plc [0, 2, 4, 6, 8, 10] (.l 6)), (11, plc [0, 2, 4, 6, 8, 10] (.l 6))]),
  (47, [(6, plc [0, 2, 4, 6, 8, 14, 16, 18] (.b 5 (pl [12, 21, 22, 24, 26, 29, 30, 32, 35]) (.x 10 (pl [22, 11, 12, 24, 26, 29, 30, 32, 35]))))]),
  (48, [(5, plc [0, 2, 4, 6, 8] (.z 9 (pl [11, 12, 14, 16, 19, 21, 22]))), (8, pl [0, 2, 4, 6, 8, 10, 12, 14, 16, 19, 20, 22, 24]), (9, plc [0, 2, 4, 6, 8, 10, 12, 14] (.l 8)), (10, plc [0, 2, 4, 6, 8, 10, 12, 14, 16, 18, 20, 22, 24, 27, 28, 31, 33, 34] (.l 18))]),
  (50, [(1, pl [0, 2, 4, 6, 9, 11, 12, 14, 16, 18, 20]), (2, pl [0, 2, 4, 6, 8, 10, 12, 14, 17, 19, 20, 22]), (4, pl [0, 2, 4, 6, 8, 10, 13, 14, 16])]),
  (51, [(13, pl [0, 3, 5, 6, 9, 10])]),
  (52, [(1, pl [0, 2, 4, 7, 8, 10, 12, 14, 17, 18, 20, 22, 24, 26, 28, 30, 32, 34, 36, 39, 41, 42, 44])]),
  (54, [(13, pl [0, 2, 4, 6, 9, 11, 12, 14, 16, 18])]),
  (57, [(1, plc [0, 2, 4, 6, 8, 10, 12, 14, 16] (.l 9))]),
  (58, [(1, plc [0, 2, 4, 6, 8, 10, 12, 14, 16, 18, 22, 24, 26, 28, 30] (.z 18 (pl [21, 33, 34, 37, 39])))]),
  (59, [(1, pl [0, 2, 4, 6, 8, 10, 12, 14, 16, 18, 20, 22, 24, 27, 29, 30, 32, 34, 36, 38])]),
  (61, [(5, pl [0, 2, 5, 6, 8, 10, 12, 16, 18, 15, 21, 22, 24, 26, 28, 30, 32, 34, 36, 38, 41, 43, 44, 46])]),
  (62, [(1, plc [0, 2, 4, 6, 8, 10, 12, 15, 17, 19, 20, 22] (.l 12))]),
  (64, [(3, pl [0, 2, 4, 6, 9, 11, 12]), (6, plc [0, 2, 4, 6, 8, 10, 12, 14, 16, 19] (.l 10)), (7, plc [0, 2, 4, 6, 9] (.l 5))]),
  (67, [(7, plc [0, 2, 4, 6, 8, 10, 12, 14, 16, 19, 20, 23, 25, 26, 28] (.l 15))]),
  (68, [(18, plc [0, 2, 4, 6, 8, 11] (.l 6))]),
  (69, [(3, pl [0, 2, 4, 6, 8, 10, 12, 14, 16, 18, 20, 22, 24, 26, 28, 30, 32, 34])]),
  (79, [(5, pl [0, 2, 4, 6, 8, 10, 13, 14, 16]), (6, plc [0, 2, 4, 6, 8, 10] (.z 10 (pl [13, 14, 16, 18, 21, 23, 24]))), (7, pl [0, 2, 4, 6, 8, 10, 13, 14, 16])]),
  (80, [(4, pl [0, 2, 4, 6, 8, 10, 12, 14, 16, 18, 20, 22, 24, 26, 28, 31, 32, 34, 37, 38]), (5, pl [0, 2, 4, 6, 8, 10, 12, 14, 17, 19, 20])]),
  (81, [(10, pl [0, 2, 4, 6, 9, 11, 12]), (12, plc [0, 2, 4, 6, 8, 10, 12, 15, 16, 19, 21, 22] (.l 12)), (14, plc [0, 2, 4, 6, 10, 12, 9, 15, 16, 18] (.l 10))]),
  (82, [(1, pl [0, 3, 4, 6, 8, 11, 12, 14, 16, 18, 20, 22, 25, 27, 28, 30, 32, 34])]),
  (83, [(1, pl [1, 3, 4, 6, 8, 10, 12, 14, 17, 19, 20, 22, 24, 26])]),
  (85, [(9, pl [0, 2, 4, 6, 8, 10, 12, 15, 16, 18])]),
  (86, [(1, pl [0, 3, 4, 6, 8, 11, 12, 14, 16, 18, 20, 22, 24, 27, 29, 30, 32, 34, 36])]),
  (87, [(1, pl [1, 3, 4, 6, 8, 10, 12, 18, 20, 22, 24, 26, 15, 16, 29, 30, 32, 34, 36])]),
  (89, [(1, plc [0, 2, 4, 6, 8, 10, 12, 14, 16, 18, 20, 22, 24] (.l 13)), (3, plc [0, 2, 4, 6, 8, 10, 12, 14, 16, 18] (.l 10))]),
  (96, [(1, pl [0, 2, 4, 6, 9, 11, 13, 14])]),
  (102, [(3, pl [0, 2, 4, 6, 8, 11, 12, 15, 16])]),
  (104, [(1, pl [0, 3, 4, 6, 8, 10, 12, 14, 17, 19, 20, 22]), (3, pl [0, 2, 4, 6, 9, 11, 12, 14, 16, 19, 20, 22])]),
  (111, [(7, pl [0, 2, 4, 6, 8, 10, 12, 16, 18, 20, 22, 24, 15, 27, 28, 30, 32])]),
  (113, [(9, pl [0, 2, 4, 6, 8, 10, 12, 14, 16, 18, 20, 22, 24, 27, 28]), (11, plc [0, 2, 4, 6, 8, 10, 12, 14, 16, 18, 20, 22, 24, 26, 29] (.l 15)), (12, pl [0, 2, 4, 6, 8, 10, 12, 14, 16, 18, 20, 22, 24, 27, 29, 31])]),
  (117, [(3, plc [0, 2, 4, 6, 12, 14, 20, 22, 26, 28] (.b 4 (pl [10, 17, 18, 24, 30, 32, 34]) (.x 8 (pl [9, 10, 18, 24, 30, 32, 34]))))]),
  (119, [(3, pl [0, 2, 4, 6, 8, 10, 13, 15, 16]), (4, pl [0, 2, 4, 10, 12, 7, 8, 14, 16])]),
  (120, [(6, pl [0, 2, 4, 6, 8, 10, 12, 14, 16, 18, 20, 22, 24, 26, 29, 31, 32])]),
  (123, [(1, pl [0, 2, 4, 6, 8, 10, 12, 14, 16, 18, 20, 22, 24, 26, 34, 29, 31, 32])]),
  (124, [(0, pl [0, 2, 4, 6, 8, 10, 12, 15, 16, 18]), (1, plc [0, 2, 4, 6, 8, 10, 12, 14, 16, 18, 20, 23, 24] (.l 13)), (2, plc [0, 2, 4, 6, 8, 10, 12, 14, 16, 18, 20, 23, 24] (.l 13))]),
  (129, [(1, plc [0, 2, 4, 6, 8, 10, 12, 14, 16, 18, 20, 22, 24, 27, 28] (.l 15))]),
  (131, [(1, pl [0, 2, 4, 6, 10, 12, 14, 16, 18, 20, 24, 26, 28, 30, 32, 34, 9, 23, 37, 39, 41, 42])]),
  (136, [(1, pl [0, 2, 4, 6, 8, 11, 12, 14, 16])]),
  (138, [(3, pl [0, 2, 4, 6, 8, 11, 13, 14])]),
  (139, [(8, pl [0, 2, 4, 8, 10, 7, 13, 14, 16, 18, 20, 22])]),
  (140, [(5, plc [0, 2, 4, 6, 8, 10, 12, 14, 16] (.z 13 (pl [19, 20, 22, 24, 27, 29, 30]))), (9, plc [0, 2, 4, 6, 8, 10, 13, 14, 17, 18, 20, 23, 24, 26, 28] (.l 15)), (14, pl [0, 2, 4, 6, 8, 10, 13, 14, 17, 18])]),
  (141, [(3, plc [0, 2, 4, 6, 8, 10, 12] (.z 11 (pl [15, 16, 18, 20, 23, 25, 26]))), (4, pl [0, 2, 4, 6, 8, 11, 12, 15, 16])]),
  (147, [(3, pl [0, 2, 4, 6, 9, 11, 12])]),
  (153, [(10, plc [0, 2, 4, 8, 10, 12, 14, 16, 20, 24, 26, 28] (.z 16 (pl [7, 19, 23, 30, 33, 35]))), (16, pl [0, 2, 4, 6, 8, 11, 12, 14])]),
  (157, [(1, pl [0, 2, 4, 10, 12, 7, 8, 15, 17, 18]), (2, plc [0, 4, 6, 8, 10, 16, 18] (.b 1 (pl [13, 15, 21, 23, 25, 27, 28]) (.x 6 (pl [3, 15, 21, 23, 25, 27, 28])))), (3, pl [0, 2, 4, 6, 10, 14, 16, 9, 13, 19, 21, 22])]),
  (160, [(2, pl [0, 2, 4, 8, 10, 12, 14, 16, 18, 20, 7, 23, 24]), (4, plc [0, 2, 4, 6, 9, 11] (.l 6))]),
  (167, [(7, pl [0, 2, 8, 10, 16, 18, 5, 6, 13, 14, 21, 22, 24])]),
  (168, [(3, pl [0, 2, 4, 6, 12, 14, 20, 22, 9, 11, 17, 18, 25, 26, 28]), (5, pl [0, 2, 4, 6, 8, 10, 12, 20, 22, 26, 15, 17, 18, 24, 28, 30, 32])]),
  (169, [(3, pl [0, 2, 4, 6, 10, 12, 14, 16, 18, 20, 9, 23, 25, 26]), (4, pl [0, 2, 4, 10, 12, 7, 8, 14, 16])]),
  (170, [(3, pl [0, 2, 4, 6, 10, 12, 14, 16, 18, 20, 9, 23, 25, 26]), (6, pl [0, 2, 4, 10, 12, 7, 8, 14, 16])]),
  (172, [(2, plc [0, 4, 6, 8, 3, 10, 12] (.l 7))]),
  (173, [(0, plc [0, 2, 4, 6, 8, 10, 12, 14, 16, 18, 20, 22, 24] (.l 13))]),
  (177, [(17, pl [0, 2, 4, 6, 8, 10, 12, 14, 16, 18, 20, 22, 25, 27, 28, 30, 32])]),
  (183, [(10, plc [0, 2, 4, 6, 8, 10, 13, 15, 17, 18, 20] (.l 11))]),
  (184, [(14, plc [0, 2, 4, 6, 8, 10, 12, 14, 16, 22, 19, 21, 25, 26] (.l 14))]),
  (187, [(9, pl [0, 2, 4, 6, 8, 10, 12, 14, 16, 18, 20, 22])]),
  (188, [(1, plc [0, 2, 4, 6, 8, 10, 12, 14, 16, 19, 20, 23] (.l 12)), (2, plc [0, 2, 4, 6, 8, 10, 12, 15] (.l 8))]),
  (191, [(1, plc [0, 2, 4, 6, 8, 10, 12, 14, 16, 18, 20, 23, 24, 26] (.l 14))]),
  (192, [(4, pl [0, 2, 4, 6, 8, 10, 12, 14, 16, 18, 20, 22, 24, 27, 29, 30, 32]), (6, plc [0, 2, 4, 6, 8, 10, 12, 14, 16, 18, 20, 22, 24, 27, 28, 31, 32] (.l 17))]),
  (193, [(5, pl [0, 2, 4, 6, 8, 10, 12, 14, 17, 19, 20]), (11, plc [0, 2, 4, 6, 8, 10, 12, 14, 16, 18, 20, 22, 24, 27, 28, 31, 32] (.l 17)), (17, pl [0, 2, 4, 6, 8, 10, 12, 14, 17, 19, 20, 22]), (23, plc [0, 2, 4, 6, 8, 10, 12, 14, 16, 18, 20, 22, 24, 27, 28, 31, 32] (.l 17)), (35, pl [0, 2, 4, 6, 8, 10, 12, 14, 16, 18, 21, 23, 24, 26])]),
  (196, [(1, pl [0, 2, 4, 6, 8, 10, 13, 14, 16, 18])]),
  (203, [(4, pl [0, 2, 4, 6, 8, 10, 12, 14, 16, 18, 21, 22])]),
  (204, [(7, plc [0, 2, 4, 6, 8, 10, 16, 18, 20, 13, 14, 23, 24, 26, 28, 30] (.l 16)), (12, plc [0, 2, 4, 6, 8, 10, 12, 14, 16, 20, 22, 24, 26, 28, 30, 32, 34, 19, 37, 38, 40, 42, 44, 47, 48, 50, 52, 54] (.l 28))]),
  (207, [(1, pl [0, 2, 4, 8, 10, 12, 7, 15, 17, 19, 20])]),
  (209, [(3, pl [0, 2, 4, 6, 8, 10, 16, 20, 13, 15, 19, 23, 25, 27, 28])]),
  (211, [(1, plc [0, 2, 4, 8, 10, 12, 18, 20, 22, 24, 26, 28] (.b 3 (plc [] (.b 7 (pl [16, 31, 33, 34, 36]) (.x 15 (pl [15, 16, 33, 34, 36])))) (.x 15 (pl [7, 15, 16, 33, 34, 36]))))]),
  (213, [(1, pl [0, 2, 4, 6, 8, 10, 12, 14, 16, 19, 20, 23, 24, 26, 28, 30, 32]), (3, plc [0, 2, 4, 6, 8, 10, 12, 14] (.l 8)), (11, plc [0, 2, 4, 6, 8, 11, 13] (.l 7))]),
  (214, [(4, pl [0, 2, 4, 6, 8, 10, 12, 14, 18, 20, 22, 24, 26, 28, 30, 32, 36, 17, 35, 39, 40]), (5, plc [0, 2, 4, 6, 8, 10, 12, 14, 16, 19, 21] (.l 11)), (6, plc [0, 2, 4, 6, 8, 10, 12, 14, 16, 19, 21] (.l 11))]),
  (216, [(3, pl [0, 2, 4, 6, 8, 10, 12, 14, 16, 18, 20, 22, 24])]),
  (220, [(1, pl [0, 2, 4, 6, 10, 12, 14, 16, 18, 9, 21, 22])]),
  (229, [(4, pl [0, 2, 4, 6, 8, 10, 12, 14, 16, 18, 20, 22, 24, 27, 29, 30, 32]), (6, plc [0, 2, 4, 6, 8, 10, 12, 14, 16, 18, 20, 22, 24, 27, 28, 31, 32] (.l 17))]),
  (230, [(10, plc [0, 2, 4, 6, 8, 10, 12, 14, 16, 18, 20, 22, 24, 26, 28, 31, 32, 35, 36] (.l 19))]),
  (231, [(10, plc [0, 2, 4, 6, 8, 10, 12, 14, 16, 18, 20, 22, 24, 26, 28, 31, 32, 35, 36] (.l 19))]),
  (233, [(3, plc [0, 2, 4, 6, 8, 10, 12, 14, 16, 18, 20, 23, 24, 27, 28] (.l 15))]),
  (234, [(5, pl [0, 2, 4, 6, 8, 10, 12, 14, 16, 18, 20, 22, 24, 27, 29, 30, 32, 34]), (11, plc [0, 2, 4, 6, 8, 10, 12, 14, 16, 18, 20, 22, 24, 27, 28, 31, 32] (.l 17)), (16, pl [0, 2, 4, 6, 8, 10, 12, 14, 16, 19, 21, 22, 24]), (17, plc [0, 2, 4, 6, 8, 10, 12, 14, 16, 18, 20, 22, 24, 27, 28, 31, 32] (.l 17)), (22, pl [0, 2, 4, 6, 8, 10, 12, 14, 16, 19, 21, 22, 24]), (23, plc [0, 2, 4, 6, 8, 10, 12, 14, 16, 18, 20, 22, 24, 27, 28, 31, 32] (.l 17))]),
  (235, [(1, plc [0, 2, 4, 6, 8, 10, 12, 14, 16, 18, 20, 23, 24, 27, 28] (.l 15)), (3, pl [0, 2, 4, 6, 8, 10, 12, 14, 16, 18, 20, 22, 25, 27, 28, 30, 32]), (5, pl [0, 2, 4, 6, 8, 10, 12, 14, 16, 18, 20, 22, 25, 27, 28, 30]), (8, plc [0, 2, 4, 6, 8, 10, 12, 14, 16, 18, 20, 23, 24, 27, 28] (.l 15))]),
  (236, [(1, plc [0, 2, 4, 6, 8, 10, 12, 14, 16, 18, 20, 23, 24, 27, 28] (.l 15)), (3, pl [0, 2, 4, 6, 8, 10, 12, 14, 16, 18, 20, 22, 25, 27, 28, 30]), (5, pl [0, 2, 4, 6, 8, 10, 12, 14, 16, 18, 20, 22, 25, 27, 28, 30, 32]), (8, plc [0, 2, 4, 6, 8, 10, 12, 14, 16, 18, 20, 23, 24, 27, 28] (.l 15)), (10, plc [0, 2, 4, 6, 8, 10, 12, 14, 16, 18, 20, 23, 24, 27, 28] (.l 15)), (13, pl [0, 2, 4, 6, 8, 10, 12, 14, 16, 18, 20, 22, 25, 27, 28, 30]), (15, pl [0, 2, 4, 6, 8, 10, 12, 14, 16, 18, 20, 22, 25, 27, 28, 30, 32]), (18, plc [0, 2, 4, 6, 8, 10, 12, 14, 16, 18, 20, 23, 24, 27, 28] (.l 15)), (21, plc [0, 2, 4, 6, 8, 10, 12, 14, 16, 18, 20, 23, 24, 27, 28] (.l 15))]),
  (243, [(1, pl [0, 2, 6, 8, 5, 11, 13, 14])]),
  (246, [(11, plc [0, 2, 4, 6, 8, 10, 12, 14] (.l 8)), (15, plc [0, 2, 4, 6, 8, 10, 12, 14] (.l 8))]),
  (248, [(3, pl [0, 3, 4, 6, 9, 10, 12, 14, 16, 18, 20, 22, 25, 26, 28])]),
  (251, [(0, pl [0, 2, 4, 8, 10, 12, 18, 20, 22, 28, 30, 32, 7, 15, 16, 25, 26, 35, 36, 38])]),
  (255, [(6, plc [0, 2, 4, 6, 8, 10, 12, 14, 16, 19] (.l 10)), (11, pl [0, 2, 4, 6, 9, 10, 12])]),
  (256, [(0, plc [0, 2, 4, 6, 8, 10, 12, 14, 16, 18, 20, 22, 24, 26, 28, 30, 32, 34, 36, 38, 40, 42, 44, 46] (.l 24))]),
  (257, [(6, pl [0, 2, 4, 6, 8, 10, 12, 14, 16, 18, 20, 23, 24, 26])]),
  (262, [(1, pl [0, 2, 4, 6, 8, 10, 12, 14, 16, 18, 20, 22, 24, 26, 28, 30, 32, 34, 37, 38, 40, 42, 45, 46, 48, 50, 52, 54]), (2, pl [0, 2, 4, 6, 8, 10, 13, 14, 17, 18])]),
  (270, [(3, pl [0, 2, 4, 6, 8, 10, 12, 14, 16, 18, 20, 22, 24, 26, 28, 30, 32, 34, 37, 39, 40, 42]), (5, pl [0, 2, 4, 6, 8, 10, 12, 14, 16, 18, 20, 22, 25, 27, 28, 30]), (6, plc [0, 2, 4, 6, 8, 10, 12, 14, 16, 18, 20, 22, 24, 26, 28, 30, 32, 34, 36, 39, 40, 43, 44] (.l 23))]),
  (272, [(1, plc [0, 2, 4, 6, 8, 11, 12, 14, 16] (.l 9)), (2, plc [0, 2, 4, 6, 8, 11, 12, 14, 16] (.l 9)), (3, plc [0, 2, 4, 6, 8, 11, 12, 14, 16] (.l 9))]),
  (282, [(1, pl [0, 2, 8, 5, 6, 10, 12])]),
  (285, [(3, plc [0, 2, 4, 6, 8, 10, 12, 14, 16, 18, 20, 22, 24, 26, 28, 30, 32, 34, 36, 39, 40, 43, 44] (.l 23))]),
  (290, [(1, pl [0, 2, 4, 6, 8, 10, 12, 14, 17, 19, 20])]),
  (297, [(3, plc [0, 2, 4, 6, 8, 10, 12, 14, 16, 18, 20, 23, 24, 27, 28] (.l 15))])]
def lkN {X : Type} : List (Nat × X) → Nat → Option X
  | [], _ => none
  | (u, x) :: r, t => bif Nat.beq u t then some x else lkN r t
def ptZ : Plt := fun f id => match lkN ptl f with
  | some l => lkN l id
  | none => none
end Go.Proofs.YthmokdfigjffjaaGreatDoor

namespace Go.Proofs.YthmokdfigjffjaaGreatDoor
set_option linter.unusedVariables false
set_option linter.unusedSimpArgs false
set_option maxRecDepth 100000
open Go.RowKit
open Go.WideMaps (KeyLaw)
theorem Tryz.laidOutZ : laidOutB Tryz.prog = true := by kernel_rfl
theorem lawLkZ : KeyLaw Tryz.prog 47 := deep_law_laid Tryz.laidOutZ (m := 4) (by decide) (by decide +kernel) (by kernel_rfl) (by kernel_rfl)
theorem lawHaZ : KeyLaw Tryz.prog 45 := deep_law_laid Tryz.laidOutZ (m := 4) (by decide) (by decide +kernel) (by kernel_rfl) (by kernel_rfl)
theorem lawPkZ : KeyLaw Tryz.prog 328 := deep_law_laid Tryz.laidOutZ (m := 4) (by decide) (by decide +kernel) (by kernel_rfl) (by kernel_rfl)
def kl : List Nat := [47, 45, 328]
theorem kl_ok : ∀ k ∈ kl, KeyLaw Tryz.prog k := by
  intro k hk
  simp only [kl, List.mem_cons, List.not_mem_nil, or_false] at hk
  rcases hk with rfl | rfl | rfl
  · exact lawLkZ
  · exact lawHaZ
  · exact lawPkZ
end Go.Proofs.YthmokdfigjffjaaGreatDoor

namespace Go.Proofs.YthmokdfigjffjaaGreatDoor
set_option linter.unusedVariables false
set_option linter.unusedSimpArgs false
open Go.RowKit
noncomputable def bodyN (p : Program) (f : Nat) : Code := match p.funcs[f]? with
  | some fn => (match fn.body with
    | some c => c
    | none => .skip)
  | none => .skip
def nthC : Nat → Code → Code
  | 0, .seq x _ => x
  | n + 1, .seq _ y => nthC n y
  | _, c => c
def restC : Nat → Code → Code
  | 0, c => c
  | n + 1, .seq _ y => restC n y
  | _, c => c
def tlk (d : Nat) (s : Strm) : Strm := fun n => s (n + d)
def lastsC : List CV := [.i .i64 0, .i .i64 0, .i .i64 0, .i .i64 0, .i .i64 0, .i .i64 0, .i .i64 0, .i .i64 0, .i .i64 0, .i .i64 120, .i .i64 300, .i .i64 0, .i .i64 0, .i .i64 0, .i .i64 0, .i .i64 0, .i .i64 0, .i .i64 60, .i .i64 60, .i .i64 0, .i .i64 0, .i .i64 0, .i .i64 0, .i .i64 0, .i .i64 0, .i .i64 240, .i .i64 240, .i .i64 7440, .i .i64 240, .i .i64 240, .i .i64 240, .i .i64 240]
def wordsC : List CV := [.i .u8 1, .v (.string ⟨⟨[105, 99, 109, 112]⟩⟩), .i .u8 6, .v (.string ⟨⟨[116, 99, 112]⟩⟩), .i .u8 17, .v (.string ⟨⟨[117, 100, 112]⟩⟩)]
def glC (b0 _b2 : Nat) : Gl := fun g => bif Nat.beq g 1 then some lastsC else bif Nat.beq g 0 then some [.m 0 b0] else none
noncomputable abbrev rq (b0 b2 m : Nat) : RZ := rz Tryz.prog tb fo ptZ (glC b0 b2) hk (rawY Tryz.prog tb kl) rtX m
noncomputable def c24 : Code := bodyN Tryz.prog 24
def F0 (_b0 _b2 : Nat) (_s : Strm) : Fr := []
def L0 (o0 _o2 : Obj) (b0 b2 : Nat) (_s : Strm) : Hp := [⟨b0, 0, wordsC, .pin 318 o0 (.v (.string ⟨⟨[]⟩⟩))⟩, ⟨b2, 0, [], .row⟩]
end Go.Proofs.YthmokdfigjffjaaGreatDoor
