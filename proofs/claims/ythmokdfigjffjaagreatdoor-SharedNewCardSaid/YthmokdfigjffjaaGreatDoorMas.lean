/- Texts of this proof, merged: Cy Ls Sees Lo Rn ChA ChR ChU. -/
import Derived.Test.YthmokdfigjffjaaGreatDoorMar
import Derived.Test.YthmokdfigjffjaaGreatDoorMaa
import Derived.ProofKit
import Derived.OpenShut
import Derived.ShutString
import Derived.ChangeOld
import Derived.Test.YthmokdfigjffjaaGreatDoorMae
import Derived.Test.YthmokdfigjffjaaGreatDoorMak
import Derived.Test.YthmokdfigjffjaaGreatDoorRows
namespace Go.Proofs.YthmokdfigjffjaaGreatDoor
set_option linter.unusedVariables false
set_option linter.unusedSimpArgs false
open Go.RowKit
/-- What the chapter's steps want of the package's variables. -/
structure TbC (w : World) : Prop where
  lasts : ∀ (k : Nat) (x : CV), lastsC[k]? = some x → w.cell? ⟨1, k, none⟩ = some x.den
  words : ∃ bm es clk, w.cell? ⟨0, 0, none⟩ = some (.map (some bm)) ∧ w.heap[bm]? = some (.map es clk) ∧ ∀ W : World, W.heap[bm]? = some (.map es clk) → ∀ (m : Nat) (c : Bool), m < 256 →
    (Instr.lookup 318 (.map (some bm)) (.int .u8 m) c).run Tryz.prog W = .ok (pinV (.v (.string ⟨⟨[]⟩⟩)) c (pinR wordsC m)).den W
theorem TbC.low {w w' : World} (h : TbC w) (hf : NoW w w') : TbC w' := by
  obtain ⟨hl, bm, es, clk, h1, h2, h3⟩ := h
  exact ⟨fun k x hx => (hf.cell (cell_lt (hl k x hx)) id).trans (hl k x hx), bm, es, clk, (hf.cell (cell_lt h1) id).trans h1, (hf.block _ (Array.getElem?_eq_some_iff.1 h2).1 id).trans h2, h3⟩
theorem cell_ne {w : World} {g k b : Nat} {x : Value} {es : Array _} {clk : Nat} (h : w.cell? ⟨g, k, none⟩ = some x) (hb : w.heap[b]? = some (.map es clk)) : b ≠ g := fun q => by
  subst q
  simp [World.cell?, hb] at h
def isT : SV → Bool
  | .e (.c (.b true)) => true
  | _ => false
theorem isT_ok {v : SV} (h : isT v = true) : v = .e (.c (.b true)) := by
  unfold isT at h
  split at h
  · rfl
  · cases h
attribute [local irreducible] rz
theorem run_pin {hk' : Nat → Option (List Nat → List SV → Hp → Strm → KvR → Bool)} {m f : Nat} {xs : List SV} {w : World} {bm clk : Nat} {es : Array MapEntry} (hh : HookOk Tryz.prog (glC bm bm) hk')
    (hl : ∀ (k : Nat) (x : CV), lastsC[k]? = some x → w.cell? ⟨1, k, none⟩ = some x.den) (h1 : w.cell? ⟨0, 0, none⟩ = some (.map (some bm))) (h2 : w.heap[bm]? = some (.map es clk))
    (h3 : ∀ W : World, W.heap[bm]? = some (.map es clk) → ∀ (m : Nat) (c : Bool), m < 256 → (Instr.lookup 318 (.map (some bm)) (.int .u8 m) c).run Tryz.prog W = .ok (pinV (.v (.string ⟨⟨[]⟩⟩)) c (pinR wordsC m)).den W)
    (hx : ∀ x ∈ xs, x.ok (L0 (.map es clk) (.map es clk) bm bm fun _ => 0)) (hr : ∀ s, (rz Tryz.prog tb fo ptZ (glC bm bm) hk' (rawY Tryz.prog tb kl) rtX m).call [0, 1] f xs (L0 (.map es clk) (.map es clk) bm bm fun _ => 0) s (fun v _ _ => isT v) = true) :
    Calls Tryz.prog f (xs.map SV.den).toArray w (Ret1 (.bool true) w) := by
  have hbm : bm < w.heap.size := (Array.getElem?_eq_some_iff.1 h2).1
  have hmem : ∀ e ∈ L0 (.map es clk) (.map es clk) bm bm fun _ => 0, e.b = bm := fun e he => by
    simp only [L0, List.mem_cons, List.not_mem_nil, or_false] at he
    rcases he with rfl | rfl <;> rfl
  have hw : ∀ x ∈ wordsC, x.ok (L0 (.map es clk) (.map es clk) bm bm fun _ => 0) := fun x hx => by
    simp only [wordsC, List.mem_cons, List.not_mem_nil, or_false] at hx
    rcases hx with rfl | rfl | rfl | rfl | rfl | rfl <;> first | trivial | rfl
  have hS : St ⟨L0 (.map es clk) (.map es clk) bm bm fun _ => 0, fun _ => False, w⟩ w := by
    refine ⟨fun e he => ?_, fun e he x hx => ?_, ?_, fun e he => by rw [hmem e he]; exact hbm, Fp.refl _ _⟩
    · simp only [L0, List.mem_cons, List.not_mem_nil, or_false] at he
      rcases he with rfl | rfl
      · exact ⟨h2, h3⟩
      · exact Blk.void_sat ⟨rfl, rfl⟩ w
    · have he' := he
      simp only [L0, List.mem_cons, List.not_mem_nil, or_false] at he'
      rcases he' with rfl | rfl
      · exact hw x hx
      · cases hx
    · intro i j e f hi hj hij _
      rcases i with _ | _ | i <;> rcases j with _ | _ | j <;> simp only [L0, List.getElem?_cons_zero, List.getElem?_cons_succ, List.getElem?_nil, Option.some.injEq, reduceCtorEq] at hi hj <;> first | exact absurd rfl hij | (subst hi; exact Or.inl ⟨rfl, rfl⟩) | (subst hj; exact Or.inr ⟨rfl, rfl⟩)
  have hg : Gd (glC bm bm) ⟨L0 (.map es clk) (.map es clk) bm bm fun _ => 0, fun _ => False, w⟩ := by
    intro g cs hgc
    unfold glC at hgc
    rcases q1 : Nat.beq g 1 with _ | _
    · rw [q1] at hgc
      rcases q2 : Nat.beq g 0 with _ | _
      · rw [q2] at hgc; cases hgc
      · rw [q2] at hgc
        obtain rfl := Nat.eq_of_beq_eq_true q2
        obtain rfl := Option.some.inj hgc
        refine ⟨fun k x hx => ?_, fun x hx => ?_, cell_lt h1, id, fun e he => by rw [hmem e he]; exact cell_ne h1 h2⟩
        · cases k with
          | zero => obtain rfl := Option.some.inj hx; exact h1
          | succ k => simp at hx
        · obtain rfl := List.mem_singleton.1 hx
          exact ⟨_, rfl, rfl⟩
    · rw [q1] at hgc
      obtain rfl := Nat.eq_of_beq_eq_true q1
      obtain rfl := Option.some.inj hgc
      have h0 := hl 0 (.i .i64 0) rfl
      refine ⟨fun k x hx => hl k x hx, fun x hx => ?_, cell_lt h0, id, fun e he => by rw [hmem e he]; exact cell_ne h0 h2⟩
      simp only [lastsC, List.mem_cons, List.not_mem_nil, or_false] at hx
      rcases hx with rfl | rfl | rfl | rfl | rfl | rfl | rfl | rfl | rfl | rfl | rfl | rfl | rfl | rfl | rfl | rfl | rfl | rfl | rfl | rfl | rfl | rfl | rfl | rfl | rfl | rfl | rfl | rfl | rfl | rfl | rfl | rfl <;> trivial
  refine (((rz_ok cx (rawY_ok tb_ok kl_ok _) rtX_ok hh m).1 [0, 1] f xs ⟨L0 (.map es clk) (.map es clk) bm bm fun _ => 0, fun _ => False, w⟩ _ hg hr).out w hS hx).mono fun e w' ⟨v, σ', he, hp⟩ => ?_
  obtain ⟨L', S', w0'⟩ := σ'
  obtain ⟨k1, k2, k3, k4⟩ := hp.kp
  dsimp only at k1 k2 k3 k4
  subst k1 k2
  have hv : v = .e (.c (.b true)) := by
    have h := hp.k.2.2 fun _ => 0
    exact isT_ok h
  subst hv
  have hL0 : L'[0]? = some ⟨bm, 0, wordsC, .pin 318 (.map es clk) (.v (.string ⟨⟨[]⟩⟩))⟩ := k3 0 _ rfl rfl
  have hsat := hp.st.sat _ (List.mem_of_getElem? hL0)
  refine ⟨he, hp.st.fp.os, hp.st.fp.tape, hp.st.fp.output, hp.st.fp.size, fun k hk _ => ?_⟩
  by_cases hkb : k = bm
  · subst hkb; exact hsat.1.trans h2.symm
  · refine hp.st.fp.block k hk fun q => ?_
    rcases q with q | ⟨e, he, hb⟩
    · exact q
    · rcases k4 e he with ⟨f, hf, hfb⟩ | hsz
      · rw [hmem f hf] at hfb; exact hkb (hb.symm.trans hfb.symm)
      · omega
theorem common_ok (w : World) (h : TbC w) : Calls Tryz.prog 24 #[] w (Ret1 (.bool true) w) := by
  obtain ⟨hl, bm, es, clk, h1, h2, h3⟩ := h
  exact run_pin (xs := []) (hk_ok _) hl h1 h2 h3 (fun x hx => by cases hx) fun s => common_run (.map es clk) (.map es clk) bm bm s (fun v _ _ => isT v) fun _ _ => rfl
end Go.Proofs.YthmokdfigjffjaaGreatDoor

namespace Go.Proofs.YthmokdfigjffjaaGreatDoor
set_option linter.unusedVariables false
set_option linter.unusedSimpArgs false
open Go.RowKit
abbrev cC (c : Nat → Value) : List CV := [.v (c 0), .v (c 1), .v (c 2), .v (c 3), .v (c 4), .v (c 5), .v (c 6)]
abbrev wC (x : Nat → Value) : List CV := [.v (x 1), .v (x 2), .v (x 3), .v (x 4), .v (x 5), .v (x 6), .v (x 7), .v (x 8), .v (x 9)]
abbrev xC (x : Nat → Value) : List CV := [.v (x 0), .v (x 1), .v (x 2), .v (x 3), .v (x 4), .v (x 5), .v (x 6), .v (x 7), .v (x 8), .v (x 9), .v (x 10), .v (x 11), .v (x 12), .v (x 13), .v (x 14), .v (x 15), .v (x 16), .v (x 17), .v (x 18), .v (x 19), .v (x 20), .v (x 21), .v (x 22), .v (x 23), .v (x 24), .v (x 25), .v (x 26), .v (x 27), .v (x 28), .v (x 29), .v (x 30), .v (x 31), .v (x 32), .v (x 33), .v (x 34), .v (x 35), .v (x 36), .v (x 37), .v (x 38), .v (x 39), .v (x 40), .v (x 41), .v (x 42), .v (x 43), .v (x 44), .v (x 45), .v (x 46)]
def newH (gd : Bool) (okA : List SV → Bool) : List Nat → List SV → Hp → Strm → KvR → Bool := fun _ xs L s K =>
  bif okA xs then (match gd with
    | true => K (.t [.c (.v (.pointer (some ⟨s 0, 0, none⟩))), .c (.i .i64 0)]) L (tl s)
    | false => K (.t [.c (.v (.pointer none)), .c (.i .i64 2)]) L s) else false
def txtH (okT : List SV → Bool) (tx : ByteArray) : List Nat → List SV → Hp → Strm → KvR → Bool := fun _ xs L s K => bif okT xs then K (.e (.c (.v (.string tx)))) L s else false
def comH (okC : Blk → Bool) : List Nat → List SV → Hp → Strm → KvR → Bool := fun _ xs L s K => match xs, L with
  | [], e :: _ => bif okC e then K (.e (.c (.b true))) L s else false
  | _, _ => false
def hkL (gd : Bool) (okA okT : List SV → Bool) (okC : Blk → Bool) (tx : ByteArray) : Nat → Option (List Nat → List SV → Hp → Strm → KvR → Bool) := fun f =>
  bif Nat.beq f 4 then some (newH gd okA) else bif Nat.beq f 5 then some (newH gd okA) else bif Nat.beq f 9 then some (txtH okT tx) else bif Nat.beq f 24 then some (comH okC) else none
def pinW (o0 : Obj) (b0 : Nat) : Blk := ⟨b0, 0, wordsC, .pin 318 o0 (.v (.string ⟨⟨[]⟩⟩))⟩
theorem law_runG (okA okT : List SV → Bool) (okC : Blk → Bool) (tx : ByteArray) (c x : Nat → Value) (o0 : Obj) (b0 : Nat) (s : Strm) : (rz Tryz.prog tb fo ptZ (glC b0 b0) (hkL true okA okT okC tx) (rawY Tryz.prog tb kl) rtX 3000).call [0, 1] 3 [.e (.a (cC c)), .e (.a (xC x))] (L0 o0 o0 b0 b0 s) s (fun v _ _ => isT v) =
    (bif okA [.e (.a (cC c))] then (bif okA [.e (.a (cC c))] then (bif okT [.e (.a (wC x))] then (bif okT [.e (.a (wC x))] then (bif okC (pinW o0 b0) then true else false) else false) else false) else false) else false) := by kernel_rfl
theorem law_runB (okA okT : List SV → Bool) (okC : Blk → Bool) (tx : ByteArray) (c x : Nat → Value) (o0 : Obj) (b0 : Nat) (s : Strm) : (rz Tryz.prog tb fo ptZ (glC b0 b0) (hkL false okA okT okC tx) (rawY Tryz.prog tb kl) rtX 3000).call [0, 1] 3 [.e (.a (cC c)), .e (.a (xC x))] (L0 o0 o0 b0 b0 s) s (fun v _ _ => isT v) =
    (bif okA [.e (.a (cC c))] then (bif okA [.e (.a (cC c))] then (bif okT [.e (.a (wC x))] then (bif okT [.e (.a (wC x))] then (bif okC (pinW o0 b0) then true else false) else false) else false) else false) else false) := by kernel_rfl
end Go.Proofs.YthmokdfigjffjaaGreatDoor

namespace Go.Proofs.YthmokdfigjffjaaGreatDoor
set_option linter.unusedVariables false
set_option linter.unusedSimpArgs false
open Go.RowKit Go.ChangeShapes Go.WideShapes Go.ChangeAt

/-- The cells of a value of a type, as far as a law's walk wants them. -/
def Sees (P : Program) (w : World) : Nat → TypeId → List Value → Prop
  | 0, _, _ => False
  | n + 1, t, cs => match P.underlying t with
    | some .bool => ∃ b, cs = [.bool b]
    | some (.int k) => ∃ x, cs = [.int k x] ∧ (Lit.int k x).wf = true
    | some .string => ∃ s, cs = [.string s] ∧ s.size ≤ maxLen
    | some (.slice e) => cs = [.slice none 0 0] ∨ ∃ a len cap, cs = [.slice (some a) len cap] ∧ len ≤ cap ∧ cap ≤ maxLen ∧ ∀ i, i < cap → ∃ ds, w.cells? 0 (a.add (i * P.cellsOf e)) (P.cellsOf e) = some ds ∧ Sees P w n e ds
    | some (.struct fs) => cs.length = P.cellsOf t ∧ ∀ f, f ∈ fs.toList → Sees P w n f.type ((cs.drop f.offset).take (P.cellsOf f.type))
    | some (.array m e) => cs.length = P.cellsOf t ∧ ∀ i, i < m → Sees P w n e ((cs.drop (i * P.cellsOf e)).take (P.cellsOf e))
    | _ => True

theorem mapM_some {α β : Type} {f : α → Option β} : ∀ {l : List α} {r : List β}, l.mapM f = some r → ∀ a, a ∈ l → ∃ b, f a = some b
  | [], _, _, a, ha => by cases ha
  | x :: xs, r, h, a, ha => by
    simp only [List.mapM_cons, Option.bind_eq_bind, Option.bind_eq_some_iff] at h
    obtain ⟨b, hb, bs, hbs, _⟩ := h
    rcases List.mem_cons.1 ha with rfl | ha
    · exact ⟨b, hb⟩
    · exact mapM_some hbs a ha

theorem sees_of_trod {H : Type} {enc : TypeId × Value → H} {P : Program} {w : World} {held : Bool} : ∀ (n : Nat) (t : TypeId) (cs : List Value) (x : DataW H × List MemPlace),
    DataW.trod enc P w 0 (fun _ => true) held n t cs = some x → Sees P w n t cs
  | 0, _, _, _, h => by simp [DataW.trod] at h
  | n + 1, t, cs, x, h => by
    unfold Sees
    rcases hu : P.underlying t with _ | d
    · trivial
    cases d with
    | bool =>
      simp only [DataW.trod, hu] at h
      split at h <;> first | (simp_all; done) | skip
    | int k =>
      simp only [DataW.trod, hu] at h
      split at h <;> first | (simp_all; done) | skip
    | string =>
      simp only [DataW.trod, hu] at h
      split at h <;> first | (simp_all; done) | skip
    | slice e =>
      simp only [DataW.trod, hu] at h
      split at h <;> first | (simp_all; done) | skip
      rename_i a len cap heq
      cases heq
      refine Or.inr ⟨a, len, cap, rfl, ?_⟩
      split at h
      · rename_i hc
        refine ⟨hc.2.1, hc.2.2, fun i hi => ?_⟩
        simp only [Option.bind_eq_some_iff, Option.map_eq_some_iff, if_true] at h
        obtain ⟨elems, he, rest, hr, _⟩ := h
        have key : ∃ b, ((w.cells? 0 (a.add (i * P.cellsOf e)) (P.cellsOf e)).bind (DataW.trod enc P w 0 (fun _ => true) held n e)) = some b := by
          by_cases hl : i < len
          · exact mapM_some he i (List.mem_range.2 hl)
          · have := mapM_some hr (i - len) (List.mem_range.2 (by omega))
            rw [show len + (i - len) = i from by omega] at this
            exact this
        obtain ⟨b, hb⟩ := key
        obtain ⟨ds, h1, h2⟩ := Option.bind_eq_some_iff.1 hb
        exact ⟨ds, h1, sees_of_trod n e ds b h2⟩
      · cases h
    | struct fs =>
      simp only [DataW.trod, hu] at h
      split at h <;> first | (simp_all; done) | skip
      rename_i hc
      refine ⟨hc, fun f hf => ?_⟩
      obtain ⟨xs, hx, _⟩ := Option.map_eq_some_iff.1 h
      obtain ⟨b, hb⟩ := mapM_some hx f hf
      exact sees_of_trod n _ _ b hb
    | array m e =>
      simp only [DataW.trod, hu] at h
      split at h <;> first | (simp_all; done) | skip
      rename_i hc
      refine ⟨hc, fun i hi => ?_⟩
      obtain ⟨xs, hx, _⟩ := Option.map_eq_some_iff.1 h
      obtain ⟨b, hb⟩ := mapM_some hx i (List.mem_range.2 hi)
      exact sees_of_trod n _ _ b hb
    | _ => trivial

/-- A value of a type, and its cells. -/
def Good (P : Program) (w : World) (t : TypeId) (v : Value) : Prop :=
  (∃ n, Sees P w n t v.cells.toList) ∧ match P.underlying t with
    | some (.struct _) | some (.array _ _) => ∃ cs, v = .agg cs
    | _ => v.cells = #[v]

theorem good_of {H : Type} {enc : TypeId × Value → H} {P : Program} {w : World} {r : Reach} {base : Nat} {held : Bool} {t : TypeId} {v : Value} {d : DataW H} {ps : List MemPlace}
    (hv : Value.okWide P w r base t v) (h : DataW.Trod enc P w 0 (fun _ => true) held t v d ps) : Good P w t v := by
  obtain ⟨n, hn⟩ := h
  refine ⟨⟨n, sees_of_trod n t _ _ hn⟩, ?_⟩
  unfold Value.okWide at hv
  rcases hu : P.underlying t with _ | q
  · simp only [hu] at hv ⊢
    cases v <;> simp_all [Cell.okWide, Cell.ok, Value.cells]
  · cases q <;> simp only [hu] at hv ⊢ <;> first | (obtain ⟨cs, h1, _⟩ := hv; exact ⟨cs, h1⟩) | (cases v <;> simp_all [Cell.okWide, Cell.ok, Value.cells]; done) | skip

section
variable {P : Program} {w : World} {n : Nat} {t e : TypeId} {cs : List Value}
theorem sees_int {k : IntKind} (hu : P.underlying t = some (.int k)) (h : Sees P w n t cs) : ∃ x, cs = [.int k x] ∧ (Lit.int k x).wf = true := by
  cases n with
  | zero => exact h.elim
  | succ n => simpa only [Sees, hu] using h
theorem sees_bool (hu : P.underlying t = some .bool) (h : Sees P w n t cs) : ∃ b, cs = [.bool b] := by
  cases n with
  | zero => exact h.elim
  | succ n => simpa only [Sees, hu] using h
theorem sees_string (hu : P.underlying t = some .string) (h : Sees P w n t cs) : ∃ s, cs = [.string s] ∧ s.size ≤ maxLen := by
  cases n with
  | zero => exact h.elim
  | succ n => simpa only [Sees, hu] using h
theorem sees_slice (hu : P.underlying t = some (.slice e)) (h : Sees P w n t cs) : cs = [.slice none 0 0] ∨ ∃ m a len cap, cs = [.slice (some a) len cap] ∧ len ≤ cap ∧ cap ≤ maxLen ∧ ∀ i, i < cap → ∃ ds, w.cells? 0 (a.add (i * P.cellsOf e)) (P.cellsOf e) = some ds ∧ Sees P w m e ds := by
  cases n with
  | zero => exact h.elim
  | succ n => simp only [Sees, hu] at h; exact h.imp id fun ⟨a, len, cap, r⟩ => ⟨n, a, len, cap, r⟩
theorem sees_struct {fs : Array Field} (hu : P.underlying t = some (.struct fs)) (h : Sees P w n t cs) : cs.length = P.cellsOf t ∧ ∃ m, ∀ f, f ∈ fs.toList → Sees P w m f.type ((cs.drop f.offset).take (P.cellsOf f.type)) := by
  cases n with
  | zero => exact h.elim
  | succ n => simp only [Sees, hu] at h; exact ⟨h.1, n, h.2⟩
theorem sees_array {m : Nat} (hu : P.underlying t = some (.array m e)) (h : Sees P w n t cs) : cs.length = P.cellsOf t ∧ ∃ q, ∀ i, i < m → Sees P w q e ((cs.drop (i * P.cellsOf e)).take (P.cellsOf e)) := by
  cases n with
  | zero => exact h.elim
  | succ n => simp only [Sees, hu] at h; exact ⟨h.1, n, h.2⟩
theorem good_struct {v : Value} {fs : Array Field} (hu : P.underlying t = some (.struct fs)) (h : Good P w t v) : ∃ cs n, v = .agg cs ∧ Sees P w n t cs.toList := by
  obtain ⟨⟨n, hs⟩, hv⟩ := h
  simp only [hu] at hv
  obtain ⟨cs, rfl⟩ := hv
  exact ⟨cs, n, rfl, hs⟩
end

theorem wf_u8 {x : Int} (h : (Lit.int .u8 x).wf = true) : 0 ≤ x ∧ x ≤ 255 := by
  simp [Lit.wf, IntKind.has, IntKind.min, IntKind.max, IntKind.signed, IntKind.bits] at h
  omega

theorem add_eq (b o i : Nat) : (⟨b, o, none⟩ : Addr).add i = ⟨b, o + i, none⟩ := by
  unfold Addr.add
  split
  · subst_vars; rfl
  · rfl

end Go.Proofs.YthmokdfigjffjaaGreatDoor

namespace Go.Proofs.YthmokdfigjffjaaGreatDoor
set_option linter.unusedVariables false
set_option linter.unusedSimpArgs false
open Go.RowKit Go.ChangeShapes Go.WideShapes Go.ChangeAt
/-- A type whose cells are plain ones. -/
def flatOk (P : Program) : Nat → TypeId → Bool
  | 0, _ => false
  | n + 1, t => match P.underlying t with
    | some .bool => true
    | some (.int _) => true
    | some .string => true
    | some (.slice _) => true
    | some (.struct fs) => (List.range (P.cellsOf t)).all fun k => fs.toList.any fun f => Nat.ble f.offset k && Nat.blt k (f.offset + P.cellsOf f.type) && flatOk P n f.type
    | some (.array m e) => (List.range (P.cellsOf t)).all fun k => (List.range m).any fun i => Nat.ble (i * P.cellsOf e) k && Nat.blt k (i * P.cellsOf e + P.cellsOf e) && flatOk P n e
    | _ => false
theorem mem_mid {l : List Value} {y : Value} {k o s : Nat} (hy : l[k]? = some y) (h1 : o ≤ k) (h2 : k < o + s) : y ∈ (l.drop o).take s := by
  refine List.mem_of_getElem? (i := k - o) ?_
  rw [List.getElem?_take_of_lt (by omega), List.getElem?_drop, show o + (k - o) = k by omega]
  exact hy
theorem flat_one {P : Program} {w : World} : ∀ (n : Nat) {m : Nat} {t : TypeId} {cs : List Value}, flatOk P n t = true → Sees P w m t cs → ∀ y ∈ cs, y.oneCell' = true
  | 0, _, _, _, h, _ => by cases h
  | n + 1, m, t, cs, h, hs => by
    intro y hy
    unfold flatOk at h
    split at h <;> first | (cases h; done) | skip
    · rename_i hu; obtain ⟨b, rfl⟩ := sees_bool hu hs; obtain rfl := List.mem_singleton.1 hy; rfl
    · rename_i k hu; obtain ⟨x, rfl, _⟩ := sees_int hu hs; obtain rfl := List.mem_singleton.1 hy; rfl
    · rename_i hu; obtain ⟨x, rfl, _⟩ := sees_string hu hs; obtain rfl := List.mem_singleton.1 hy; rfl
    · rename_i e hu
      rcases sees_slice hu hs with rfl | ⟨_, a, len, cap, rfl, _⟩ <;> (obtain rfl := List.mem_singleton.1 hy; rfl)
    · rename_i fs hu
      obtain ⟨hl, q, hf⟩ := sees_struct hu hs
      obtain ⟨k, hk⟩ := List.mem_iff_getElem?.1 hy
      have hk2 := (List.getElem?_eq_some_iff.1 hk).1
      have := List.all_eq_true.1 h k (List.mem_range.2 (by omega))
      obtain ⟨f, hfm, hfk⟩ := List.any_eq_true.1 this
      simp only [Bool.and_eq_true, Nat.ble_eq, Nat.blt_eq] at hfk
      exact flat_one n hfk.2 (hf f hfm) y (mem_mid hk hfk.1.1 hfk.1.2)
    · rename_i e2 e hu
      obtain ⟨hl, q, hf⟩ := sees_array hu hs
      obtain ⟨k, hk⟩ := List.mem_iff_getElem?.1 hy
      have hk2 := (List.getElem?_eq_some_iff.1 hk).1
      have := List.all_eq_true.1 h k (List.mem_range.2 (by omega))
      obtain ⟨i, hi, hfk⟩ := List.any_eq_true.1 this
      simp only [Bool.and_eq_true, Nat.ble_eq, Nat.blt_eq] at hfk
      exact flat_one n hfk.2 (hf i (List.mem_range.1 hi)) y (mem_mid hk hfk.1.1 hfk.1.2)
theorem get_mid {l : List Value} {y d : Value} {a n j : Nat} (h : (((l.drop a).take n).drop j).take 1 = [y]) : l.getD (a + j) d = y := by
  have h1 := congrArg (fun l : List Value => l[0]?) h
  simp only [List.getElem?_take, List.getElem?_drop, List.getElem?_cons_zero] at h1
  split at h1 <;> first | (cases h1; done) | skip
  split at h1 <;> first | (cases h1; done) | skip
  simp only [Nat.add_zero] at h1
  rw [List.getD_eq_getElem?_getD, h1]; rfl
theorem get_mid2 {l : List Value} {y d : Value} {a n b m j : Nat} (h : (((((l.drop a).take n).drop b).take m).drop j).take 1 = [y]) : l.getD (a + b + j) d = y := by
  have h1 := congrArg (fun l : List Value => l[0]?) h
  simp only [List.getElem?_take, List.getElem?_drop, List.getElem?_cons_zero] at h1
  split at h1 <;> first | (cases h1; done) | skip
  split at h1 <;> first | (cases h1; done) | skip
  split at h1 <;> first | (cases h1; done) | skip
  simp only [Nat.add_zero] at h1
  rw [List.getD_eq_getElem?_getD, show a + b + j = a + (b + j) by omega, h1]; rfl
theorem list_is {l : List Value} {n : Nat} (hl : l.length = n) (d : Value) : l = (List.range n).map fun i => l.getD i d := by
  apply List.ext_getElem?
  intro i
  rw [List.getElem?_map]
  by_cases hi : i < n
  · rw [List.getElem?_range hi, Option.map_some, List.getD_eq_getElem?_getD, List.getElem?_eq_getElem (by omega)]; rfl
  · rw [List.getElem?_eq_none (by omega), List.getElem?_eq_none (by simp; omega)]; rfl
theorem agg_is {cs : Array Value} {l : List Value} (h : cs.toList = l) : Value.agg cs = Value.agg l.toArray := by
  subst h; simp
theorem u8_nat {x : Int} (h : (Lit.int .u8 x).wf = true) : ∃ k : Nat, x = k ∧ k < 256 := by
  obtain ⟨a, b⟩ := wf_u8 h
  exact ⟨x.toNat, by omega, by omega⟩
theorem u32_nat {x : Int} (h : (Lit.int .u32 x).wf = true) : ∃ k : Nat, x = k ∧ k < 4294967296 := by
  have : 0 ≤ x ∧ x ≤ 4294967295 := by simpa [Lit.wf, IntKind.has, IntKind.min, IntKind.max, IntKind.signed, IntKind.bits] using h
  exact ⟨x.toNat, by omega, by omega⟩
set_option maxRecDepth 100000 in
theorem xC_eq (x : Nat → Value) : xC x = (List.range 47).map fun i => CV.v (x i) := rfl
theorem cC_eq (x : Nat → Value) : cC x = (List.range 7).map fun i => CV.v (x i) := rfl
theorem act_open {w : World} {v : Value} (h : Good Tryz.prog w 49 v) : ∃ x : Nat → Value, v = .agg ((xC x).map CV.den).toArray ∧ (∀ y ∈ xC x, y.ok []) ∧
    ∃ (k p f t b p0 p1 fl : Nat) (raw : ByteArray), ((x 1 = .int .u8 k ∧ x 2 = .int .u8 p ∧ x 3 = .int .u8 f ∧ x 4 = .int .u8 t ∧ x 5 = .int .u8 b) ∧ x 6 = .int .u8 p0 ∧ x 7 = .int .u8 p1 ∧ x 8 = .int .u8 fl ∧ x 9 = .string raw) ∧ fl < 256 := by
  have c1 : Tryz.prog.cellsOf 49 = 47 := by kernel_rfl
  have c2 : Tryz.prog.cellsOf 30 = 9 := by kernel_rfl
  have c3 : Tryz.prog.cellsOf 5 = 1 := by kernel_rfl
  have c4 : Tryz.prog.cellsOf 28 = 2 := by kernel_rfl
  have c5 : Tryz.prog.cellsOf 9 = 1 := by kernel_rfl
  have hfl : flatOk Tryz.prog 8 49 = true := by kernel_rfl
  obtain ⟨cs, n, rfl, hs⟩ := good_struct Tryz.underlying49 h
  have hone := flat_one 8 hfl hs
  obtain ⟨hl, m, hf⟩ := sees_struct Tryz.underlying49 hs
  rw [c1] at hl
  have hli := list_is hl (.bool false)
  simp only [List.forall_mem_cons] at hf
  obtain ⟨_, hW, _⟩ := hf
  obtain ⟨hl2, m2, hf2⟩ := sees_struct Tryz.underlying30 hW
  simp only [List.forall_mem_cons] at hf2
  obtain ⟨w0, w1, w2, w3, w4, w5, w6, w7, _⟩ := hf2
  simp only [c2, c3, c4, c5] at w0 w1 w2 w3 w4 w5 w6 w7
  obtain ⟨k, e0, z0⟩ := sees_int Tryz.underlying5 w0
  obtain ⟨p, e1, z1⟩ := sees_int Tryz.underlying5 w1
  obtain ⟨f, e2, z2⟩ := sees_int Tryz.underlying5 w2
  obtain ⟨t, e3, z3⟩ := sees_int Tryz.underlying5 w3
  obtain ⟨b, e4, z4⟩ := sees_int Tryz.underlying5 w4
  obtain ⟨fl, e7, z7⟩ := sees_int Tryz.underlying5 w6
  obtain ⟨raw, e8, _⟩ := sees_string Tryz.underlying9 w7
  obtain ⟨_, q, hp⟩ := sees_array Tryz.underlying28 w5
  have hp0 := hp 0 (by omega)
  have hp1 := hp 1 (by omega)
  simp only [c3] at hp0 hp1
  obtain ⟨p0, e5, z5⟩ := sees_int Tryz.underlying5 hp0
  obtain ⟨p1, e6, z6⟩ := sees_int Tryz.underlying5 hp1
  obtain ⟨k, rfl, y0⟩ := u8_nat z0
  obtain ⟨p, rfl, y1⟩ := u8_nat z1
  obtain ⟨f, rfl, y2⟩ := u8_nat z2
  obtain ⟨t, rfl, y3⟩ := u8_nat z3
  obtain ⟨b, rfl, y4⟩ := u8_nat z4
  obtain ⟨p0, rfl, y5⟩ := u8_nat z5
  obtain ⟨p1, rfl, y6⟩ := u8_nat z6
  obtain ⟨fl, rfl, y7⟩ := u8_nat z7
  refine ⟨fun i => cs.toList.getD i (.bool false), ?_, ?_, k, p, f, t, b, p0, p1, fl, raw, ⟨⟨get_mid (a := 1) (j := 0) e0, get_mid (a := 1) (j := 1) e1, get_mid (a := 1) (j := 2) e2, get_mid (a := 1) (j := 3) e3, get_mid (a := 1) (j := 4) e4⟩, get_mid2 (a := 1) (b := 5) (j := 0) e5, get_mid2 (a := 1) (b := 5) (j := 1) e6, get_mid (a := 1) (j := 7) e7, get_mid (a := 1) (j := 8) e8⟩, y7⟩
  · rw [xC_eq, List.map_map]
    exact agg_is hli
  · intro y hy
    rw [xC_eq] at hy
    obtain ⟨i, hi, rfl⟩ := List.mem_map.1 hy
    refine hone _ ?_
    have hi2 := List.mem_range.1 hi
    rw [List.getD_eq_getElem?_getD, List.getElem?_eq_getElem (by omega)]
    exact List.getElem_mem _
theorem cfg_open {w : World} {v : Value} (h : Good Tryz.prog w 27 v) : ∃ x : Nat → Value, v = .agg ((cC x).map CV.den).toArray ∧ (∀ y ∈ cC x, y.ok []) ∧
    ∃ (o ip : Nat) (bits ns nb nw wh : Int), (x 0 = .int .u32 o ∧ x 1 = .int .u32 ip ∧ x 2 = .int .i64 bits ∧ x 3 = .int .i64 ns ∧ x 4 = .int .i64 nb ∧ x 5 = .int .i64 nw ∧ x 6 = .int .i64 wh) ∧ o < 4294967296 ∧ ip < 4294967296 := by
  have c1 : Tryz.prog.cellsOf 27 = 7 := by kernel_rfl
  have c2 : Tryz.prog.cellsOf 25 = 2 := by kernel_rfl
  have c3 : Tryz.prog.cellsOf 23 = 1 := by kernel_rfl
  have c4 : Tryz.prog.cellsOf 3 = 1 := by kernel_rfl
  have hfl : flatOk Tryz.prog 8 27 = true := by kernel_rfl
  obtain ⟨cs, n, rfl, hs⟩ := good_struct Tryz.underlying27 h
  have hone := flat_one 8 hfl hs
  obtain ⟨hl, m, hf⟩ := sees_struct Tryz.underlying27 hs
  rw [c1] at hl
  have hli := list_is hl (.bool false)
  simp only [List.forall_mem_cons] at hf
  obtain ⟨w0, w1, w2, w3, w4, w5, _⟩ := hf
  obtain ⟨_, m2, hf2⟩ := sees_struct Tryz.underlying25 w1
  simp only [List.forall_mem_cons] at hf2
  obtain ⟨w6, w7, _⟩ := hf2
  simp only [c2, c3, c4] at w0 w2 w3 w4 w5 w6 w7
  obtain ⟨o, e0, z0⟩ := sees_int Tryz.underlying23 w0
  obtain ⟨ip, e1, z1⟩ := sees_int Tryz.underlying23 w6
  obtain ⟨bits, e2, _⟩ := sees_int Tryz.underlying3 w7
  obtain ⟨ns, e3, _⟩ := sees_int Tryz.underlying3 w2
  obtain ⟨nb, e4, _⟩ := sees_int Tryz.underlying3 w3
  obtain ⟨nw, e5, _⟩ := sees_int Tryz.underlying3 w4
  obtain ⟨wh, e6, _⟩ := sees_int Tryz.underlying3 w5
  obtain ⟨o, rfl, y0⟩ := u32_nat z0
  obtain ⟨ip, rfl, y1⟩ := u32_nat z1
  have g1 : ∀ {j : Nat} {y : Value}, (cs.toList.drop j).take 1 = [y] → cs.toList.getD j (.bool false) = y := fun {j y} h => by
    have h1 := congrArg (fun l : List Value => l[0]?) h
    simp only [List.getElem?_take, List.getElem?_drop, List.getElem?_cons_zero] at h1
    simp only [Nat.add_zero, Nat.lt_add_one, if_true] at h1
    rw [List.getD_eq_getElem?_getD, h1]; rfl
  refine ⟨fun i => cs.toList.getD i (.bool false), ?_, ?_, o, ip, bits, ns, nb, nw, wh, ⟨g1 e0, get_mid (a := 1) (j := 0) e1, get_mid (a := 1) (j := 1) e2, g1 e3, g1 e4, g1 e5, g1 e6⟩, y0, y1⟩
  · rw [cC_eq, List.map_map]
    exact agg_is hli
  · intro y hy
    rw [cC_eq] at hy
    obtain ⟨i, hi, rfl⟩ := List.mem_map.1 hy
    refine hone _ ?_
    have hi2 := List.mem_range.1 hi
    rw [List.getD_eq_getElem?_getD, List.getElem?_eq_getElem (by omega)]
    exact List.getElem_mem _
end Go.Proofs.YthmokdfigjffjaaGreatDoor

namespace Go.Proofs.YthmokdfigjffjaaGreatDoor
set_option linter.unusedVariables false
set_option linter.unusedSimpArgs false
set_option maxRecDepth 100000
open Go.RowKit
def eIn (n m : Int) : Int := if 1 ≤ n ∧ n ≤ m then 0 else 2
/-- It tells a pointer and an error, and writes nothing old. -/
def PE (E : Int) (w : World) (e : Ending) (w' : World) : Prop := ∃ p : Option Addr, e = .returned (.tuple #[.pointer p, .int .i64 E]) ∧ NoW w w'
theorem pe0 {w : World} {p : Option Addr} {E : Int} {v : SV} (h : v.den = .tuple #[.pointer p, .int .i64 E]) : FinN (s0 w) v (PE E w) := ⟨fun _ hS => ⟨p, by rw [h], hS.now⟩⟩
theorem pew {w : World} {L : Hp} (hn : New w L) {p : Option Addr} {E : Int} {v : SV} (h : v.den = .tuple #[.pointer p, .int .i64 E]) : FinN ⟨L, fun _ => False, w⟩ v (PE E w) := ⟨fun _ hS => ⟨p, by rw [h], hS.nw hn⟩⟩
theorem r15_new (n : Int) (w : World) : Calls Tryz.prog 36 #[.int .i64 n] w (PE (eIn n 64) w) := by
  refine enterS cx Tryz.func36 rfl rfl rfl [cI .i64 n] _ (st0 w) (okc trivial okn) rfl ?_
  unfold eIn
  by_cases h1 : n < 1
  · refine Br.yes (decide_eq_true h1) ?_
    rw [if_neg (by omega)]
    exact pe0 (p := none) rfl
  refine Br.no (decide_eq_false h1) ?_
  by_cases h2 : 64 < n
  · refine Br.yes (decide_eq_true h2) ?_
    rw [if_neg (by omega)]
    exact pe0 (p := none) rfl
  refine Br.no (decide_eq_false h2) ?_
  rw [if_pos (by omega)]
  intro b hb
  exact pew (newb hb New.nil) (p := some ⟨b, 0, none⟩) rfl
end Go.Proofs.YthmokdfigjffjaaGreatDoor

namespace Go.Proofs.YthmokdfigjffjaaGreatDoor
set_option linter.unusedVariables false
set_option linter.unusedSimpArgs false
open Go.RowKit
open Go.ChangeMaps (setBlock)
open Go.WideMaps (KeyLaw)

theorem Tryz.own : ownKnob Tryz.prog.godebug = none := by kernel_rfl
theorem Tryz.laidOut : laidOutB Tryz.prog = true := by kernel_rfl

/-- A link, as numbers. -/
abbrev Lk := Int × Int × Bool
def lv (l : Lk) : Value := .agg #[.int .i64 l.1, .int .u32 l.2.1, .bool l.2.2]
def Lok (l : Lk) : Prop := (Lit.int .i64 l.1).wf = true ∧ (Lit.int .u32 l.2.1).wf = true

theorem lv_lits (d : Nat) (l : Lk) (h : Lok l) : ∃ x, Tryz.prog.keyLits (d + 3) 47 [.int .i64 l.1, .int .u32 l.2.1, .bool l.2.2] = some x := by
  obtain ⟨h1, h2⟩ := h
  have c1 : Tryz.prog.cellsOf 47 = 3 := by kernel_rfl
  have c2 : Tryz.prog.cellsOf 45 = 2 := by kernel_rfl
  have c3 : Tryz.prog.cellsOf 3 = 1 := by kernel_rfl
  have c4 : Tryz.prog.cellsOf 22 = 1 := by kernel_rfl
  have c5 : Tryz.prog.cellsOf 4 = 1 := by kernel_rfl
  refine ⟨[.int .i64 l.1, .int .u32 l.2.1, .bool l.2.2], ?_⟩
  simp [Program.keyLits, Tryz.underlying47, Tryz.underlying45, Tryz.underlying3, Tryz.underlying22, Tryz.underlying4, c1, c2, c3, c4, c5, h1, h2]
  rw [if_pos (by intro i hi; rcases i with _ | _ | i; all_goals first | omega | simp)]
  rfl

theorem lv_key (l : Lk) (h : Lok l) : ∃ x, keyOf Tryz.prog 47 (lv l) = some x := by
  have hkt : Tryz.prog.keyType 47 = true := by kernel_rfl
  have hf : Value.formed Tryz.prog 47 (lv l) = true := by kernel_rfl
  have hd : Tryz.prog.types.size + 1 = (Tryz.prog.types.size - 2) + 3 := by kernel_rfl
  obtain ⟨x, hx⟩ := lv_lits (Tryz.prog.types.size - 2) l h
  unfold keyOf
  rw [hd]
  simp only [Tryz.underlying47, hkt, hf, Bool.and_self, ↓reduceIte]
  refine ⟨.string (keyBytes x), ?_⟩
  have : (lv l).cells.toList = [.int .i64 l.1, .int .u32 l.2.1, .bool l.2.2] := rfl
  rw [this, hx]
  rfl

set_option maxHeartbeats 400000 in
theorem join_any (b o c p : Nat) (v1 u0 : Value) (w : World)
    (h0 : w.cell? ⟨b, o + 1, none⟩ = some v1) (h1 : w.cell? ⟨c, p, none⟩ = some u0)
    (f0 : w.frozen? ⟨b, o + 1, none⟩ = false) (f1 : w.frozen? ⟨c, p, none⟩ = false) (hne : ¬ (c = b ∧ p = o + 1)) :
    Calls Tryz.prog 84 #[.pointer (some ⟨b, o, none⟩), .pointer (some ⟨c, p, none⟩)] w fun e w' => e = .returned (.tuple #[]) ∧ (w.setCell ⟨b, o + 1, none⟩ (.pointer (some ⟨c, p, none⟩))).setCell ⟨c, p, none⟩ (.pointer (some ⟨b, o, none⟩)) = w' := by
  have h2 : (w.setCell ⟨b, o + 1, none⟩ (.pointer (some ⟨c, p, none⟩))).cell? ⟨c, p, none⟩ = some u0 := by
    rw [World.cell?_setCell_other _ _ _ _ (by simp; omega)]; exact h1
  go_enter Tryz.func84, Tryz.ntmps84
  go_wp2
  go_end0
  exact ⟨rfl, rfl⟩
end Go.Proofs.YthmokdfigjffjaaGreatDoor

namespace Go.Proofs.YthmokdfigjffjaaGreatDoor
set_option linter.unusedVariables false
set_option linter.unusedSimpArgs false
open Go.RowKit
open Go.ChangeMaps (setBlock)

abbrev Ad := Nat × Nat
def ptr (a : Ad) : Value := .pointer (some ⟨a.1, a.2, none⟩)
def cl (w : World) (a : Ad) (i : Nat) : Option Value := w.cell? ⟨a.1, a.2 + i, none⟩

/-- From x through all of the list to z each one leads to the next one, and back. -/
def Ring (w : World) : Ad → List Ad → Ad → Prop
  | x, [], z => cl w x 1 = some (ptr z) ∧ cl w z 0 = some (ptr x)
  | x, y :: ys, z => cl w x 1 = some (ptr y) ∧ cl w y 0 = some (ptr x) ∧ Ring w y ys z

theorem Ring.frame {w w' : World} : ∀ {x : Ad} {ys : List Ad} {z : Ad}, Ring w x ys z → (∀ a, a ∈ x :: ys → cl w' a 1 = cl w a 1) → (∀ a, a ∈ ys ++ [z] → cl w' a 0 = cl w a 0) → Ring w' x ys z
  | x, [], z, h, h1, h0 => ⟨(h1 x (by simp)).trans h.1, (h0 z (by simp)).trans h.2⟩
  | x, y :: ys, z, h, h1, h0 => ⟨(h1 x (by simp)).trans h.1, (h0 y (by simp)).trans h.2.1, Ring.frame h.2.2 (fun a ha => h1 a (List.mem_cons_of_mem _ ha)) (fun a ha => h0 a (by simp at ha ⊢; exact Or.inr ha))⟩

def hd (ys : List Ad) (z : Ad) : Ad := match ys with | [] => z | y :: _ => y
def lst (x : Ad) (ys : List Ad) : Ad := match ys with | [] => x | y :: ys => lst y ys

theorem Ring.first {w : World} {x : Ad} {ys : List Ad} {z : Ad} (h : Ring w x ys z) : cl w x 1 = some (ptr (hd ys z)) := by cases ys <;> exact h.1
theorem Ring.last {w : World} : ∀ {x : Ad} {ys : List Ad} {z : Ad}, Ring w x ys z → cl w z 0 = some (ptr (lst x ys)) ∧ cl w (lst x ys) 1 = some (ptr z)
  | _, [], _, h => ⟨h.2, h.1⟩
  | _, y :: _, _, h => Ring.last (x := y) h.2.2

theorem Ring.split {w : World} {a z : Ad} {l2 : List Ad} : ∀ {x : Ad} {l1 : List Ad}, Ring w x (l1 ++ a :: l2) z ↔ Ring w x l1 a ∧ Ring w a l2 z
  | x, [] => by simp only [List.nil_append, Ring]; exact ⟨fun h => ⟨⟨h.1, h.2.1⟩, h.2.2⟩, fun h => ⟨h.1.1, h.1.2, h.2⟩⟩
  | x, y :: l1 => by simp only [List.cons_append, Ring, Ring.split (x := y) (l1 := l1)]; constructor <;> (intro h; simp_all)

theorem lst_mem (x : Ad) : ∀ ys : List Ad, lst x ys ∈ x :: ys
  | [] => by simp [lst]
  | y :: ys => by simp only [lst]; exact List.mem_cons_of_mem _ (lst_mem y ys)
theorem hd_mem (ys : List Ad) (z : Ad) : hd ys z ∈ ys ++ [z] := by cases ys <;> simp [hd]

theorem Ring.insert {w w' : World} {x z : Ad} {ys : List Ad} (a : Ad) (h : Ring w x ys z)
    (e1 : cl w' x 1 = some (ptr a)) (e2 : cl w' a 0 = some (ptr x)) (e3 : cl w' a 1 = some (ptr (hd ys z))) (e4 : cl w' (hd ys z) 0 = some (ptr a))
    (h1 : ∀ b, b ∈ ys → cl w' b 1 = cl w b 1) (h0 : ∀ b, b ∈ (ys ++ [z]).tail → cl w' b 0 = cl w b 0) : Ring w' x (a :: ys) z := by
  refine ⟨e1, e2, ?_⟩
  cases ys with
  | nil => exact ⟨e3, e4⟩
  | cons y ys => exact ⟨e3, e4, h.2.2.frame h1 (by simpa using h0)⟩

theorem Ring.join {w w' : World} : ∀ {x a a' z : Ad} {l1 l2 : List Ad}, Ring w x l1 a → Ring w a' l2 z →
    cl w' (lst x l1) 1 = some (ptr (hd l2 z)) → cl w' (hd l2 z) 0 = some (ptr (lst x l1)) →
    (∀ b, b ∈ (x :: l1).dropLast ∨ b ∈ l2 → cl w' b 1 = cl w b 1) → (∀ b, b ∈ l1 ∨ b ∈ (l2 ++ [z]).tail → cl w' b 0 = cl w b 0) → Ring w' x (l1 ++ l2) z
  | x, a, a', z, [], l2, _, h2, e1, e2, h1, h0 => by
    cases l2 with
    | nil => exact ⟨e1, e2⟩
    | cons y ys => exact ⟨e1, e2, h2.2.2.frame (fun b hb => h1 b (Or.inr hb)) (fun b hb => h0 b (Or.inr (by simpa using hb)))⟩
  | x, a, a', z, y :: l1, l2, hr, h2, e1, e2, h1, h0 => by
    refine ⟨(h1 x (Or.inl (by simp))).trans hr.1, (h0 y (Or.inl (by simp))).trans hr.2.1, ?_⟩
    exact Ring.join hr.2.2 h2 e1 e2 (fun b hb => h1 b (hb.imp (fun hb => by simp; exact Or.inr hb) id)) (fun b hb => h0 b (hb.imp (fun hb => List.mem_cons_of_mem _ hb) id))

/-- A row of nodes: each node's block, and its link. -/
abbrev Row := List (Nat × Lk)
def nodes (r : Row) : List Ad := r.map fun x => (x.1, 0)
def pairs (σ : List Row) : List (Value × Value) := σ.flatten.map fun x => (lv x.2, ptr (x.1, 0))

/-- The chains at block bc: their fronts lie in bf, the map in bm; the rows are σ. -/
structure ChRep (w : World) (bc bf bm : Nat) (σ : List Row) : Prop where
  c0 : w.cell? ⟨bc, 0, none⟩ = some (.slice (some ⟨bf, 0, none⟩) σ.length σ.length)
  c1 : w.cell? ⟨bc, 1, none⟩ = some (.map (some bm))
  pos : 0 < σ.length
  le : σ.length ≤ 64
  fz : ∀ b o, b = bf ∨ b ∈ σ.flatten.map Prod.fst → w.frozen? ⟨b, o, none⟩ = false
  front : ∀ i, i < σ.length → cl w (bf, i * 6) 2 = some (.int .i64 0) ∧ cl w (bf, i * 6) 3 = some (.int .u32 0) ∧ cl w (bf, i * 6) 4 = some (.bool false) ∧ cl w (bf, i * 6) 5 = some (.int .i64 0)
  node : ∀ (i : Nat) (r : Row), σ[i]? = some r → ∀ x, x ∈ r → cl w (x.1, 0) 2 = some (.int .i64 x.2.1) ∧ cl w (x.1, 0) 3 = some (.int .u32 x.2.2.1) ∧ cl w (x.1, 0) 4 = some (.bool x.2.2.2) ∧ cl w (x.1, 0) 5 = some (.int .i64 i)
  ring : ∀ (i : Nat) (r : Row), σ[i]? = some r → Ring w (bf, i * 6) (nodes r) (bf, i * 6)
  map : ∃ m, MapIs w bm m ∧ m.Perm (pairs σ)
  nd : (σ.flatten.map Prod.snd).Nodup
  ok : ∀ x, x ∈ σ.flatten → Lok x.2
  apart : (bc :: bf :: bm :: σ.flatten.map Prod.fst).Nodup

end Go.Proofs.YthmokdfigjffjaaGreatDoor

namespace Go.Proofs.YthmokdfigjffjaaGreatDoor
set_option linter.unusedVariables false
set_option linter.unusedSimpArgs false
open Go.RowKit
open Go.ChangeMaps (setBlock)

theorem flatten_set_perm {α : Type} : ∀ (σ : List (List α)) (i : Nat) (r : List α) (x : α), σ[i]? = some r → (σ.set i (x :: r)).flatten.Perm (x :: σ.flatten)
  | [], _, _, _, h => by simp at h
  | s :: σ, 0, r, x, h => by
    simp at h; subst h; simp
  | s :: σ, i + 1, r, x, h => by
    simp at h
    have := flatten_set_perm σ i r x h
    simp only [List.set_cons_succ, List.flatten_cons]
    exact (this.append_left s).trans (List.perm_middle)

theorem mem_flatten_of {α : Type} {σ : List (List α)} {i : Nat} {r : List α} {x : α} (h : σ[i]? = some r) (hx : x ∈ r) : x ∈ σ.flatten :=
  List.mem_flatten.2 ⟨r, List.mem_of_getElem? h, hx⟩

/-- Two places of a list of rows whose parts are all unlike. -/
theorem ne_of_nodup {α β : Type} (f : α → β) : ∀ {σ : List (List α)} {i j : Nat} {r s : List α} {x y : α}, (σ.flatten.map f).Nodup → σ[i]? = some r → σ[j]? = some s → i ≠ j → x ∈ r → y ∈ s → f x ≠ f y
  | [], _, _, _, _, _, _, _, h, _, _, _, _ => by simp at h
  | t :: σ, 0, 0, _, _, _, _, _, _, _, h, _, _ => absurd rfl h
  | t :: σ, 0, j + 1, r, s, x, y, hn, h1, h2, _, hx, hy => by
    simp at h1 h2; subst h1
    simp only [List.flatten_cons, List.map_append, List.nodup_append] at hn
    exact hn.2.2 _ (List.mem_map.2 ⟨x, hx, rfl⟩) _ (List.mem_map.2 ⟨y, mem_flatten_of h2 hy, rfl⟩)
  | t :: σ, i + 1, 0, r, s, x, y, hn, h1, h2, _, hx, hy => by
    simp at h1 h2; subst h2
    simp only [List.flatten_cons, List.map_append, List.nodup_append] at hn
    exact fun e => hn.2.2 _ (List.mem_map.2 ⟨y, hy, rfl⟩) _ (List.mem_map.2 ⟨x, mem_flatten_of h1 hx, rfl⟩) e.symm
  | t :: σ, i + 1, j + 1, r, s, x, y, hn, h1, h2, hne, hx, hy => by
    simp at h1 h2
    simp only [List.flatten_cons, List.map_append, List.nodup_append] at hn
    exact ne_of_nodup f hn.2.1 h1 h2 (by omega) hx hy

theorem nodup_row {α β : Type} (f : α → β) {σ : List (List α)} {i : Nat} {r : List α} (hn : (σ.flatten.map f).Nodup) (h : σ[i]? = some r) : (r.map f).Nodup := by
  refine List.Nodup.sublist ?_ hn
  exact (List.sublist_flatten_of_mem (List.mem_of_getElem? h)).map f

theorem mem_nodes {r : Row} {a : Ad} (h : a ∈ nodes r) : ∃ x, x ∈ r ∧ a = (x.1, 0) := by
  obtain ⟨x, hx, rfl⟩ := List.mem_map.1 h
  exact ⟨x, hx, rfl⟩

section
variable {w : World} {bc bf bm : Nat} {σ : List Row}

theorem ChRep.nd1 (h : ChRep w bc bf bm σ) : (σ.flatten.map Prod.fst).Nodup := by
  have := h.apart; simp only [List.nodup_cons] at this; exact this.2.2.2
theorem ChRep.ne_bf (h : ChRep w bc bf bm σ) {x : Nat × Lk} (hx : x ∈ σ.flatten) : x.1 ≠ bf := by
  have := h.apart; simp only [List.nodup_cons, List.mem_cons] at this
  exact fun e => this.2.1 (Or.inr (e ▸ List.mem_map.2 ⟨x, hx, rfl⟩))
theorem ChRep.ne_bm (h : ChRep w bc bf bm σ) {x : Nat × Lk} (hx : x ∈ σ.flatten) : x.1 ≠ bm := by
  have := h.apart; simp only [List.nodup_cons, List.mem_cons] at this
  exact fun e => this.2.2.1 (e ▸ List.mem_map.2 ⟨x, hx, rfl⟩)
theorem ChRep.ne_bc (h : ChRep w bc bf bm σ) {x : Nat × Lk} (hx : x ∈ σ.flatten) : x.1 ≠ bc := by
  have := h.apart; simp only [List.nodup_cons, List.mem_cons] at this
  exact fun e => this.1 (Or.inr (Or.inr (e ▸ List.mem_map.2 ⟨x, hx, rfl⟩)))
theorem ChRep.bf_bm (h : ChRep w bc bf bm σ) : bf ≠ bm := by
  have := h.apart; simp only [List.nodup_cons, List.mem_cons] at this
  exact fun e => this.2.1 (Or.inl e)
theorem ChRep.bc_bm (h : ChRep w bc bf bm σ) : bc ≠ bm := by
  have := h.apart; simp only [List.nodup_cons, List.mem_cons] at this
  exact fun e => this.1 (Or.inr (Or.inl e))
theorem ChRep.bc_bf (h : ChRep w bc bf bm σ) : bc ≠ bf := by
  have := h.apart; simp only [List.nodup_cons, List.mem_cons] at this
  exact fun e => this.1 (Or.inl e)
theorem ChRep.lt_bc (h : ChRep w bc bf bm σ) : bc < w.heap.size := cell_lt h.c0
theorem ChRep.lt_bf (h : ChRep w bc bf bm σ) : bf < w.heap.size := cell_lt (h.front 0 h.pos).1
theorem ChRep.lt_bm (h : ChRep w bc bf bm σ) : bm < w.heap.size := by obtain ⟨m, hm, _⟩ := h.map; exact hm.lt
theorem ChRep.lt_node (h : ChRep w bc bf bm σ) {x : Nat × Lk} (hx : x ∈ σ.flatten) : x.1 < w.heap.size := by
  obtain ⟨r, hr, hx⟩ := List.mem_flatten.1 hx
  obtain ⟨i, hi, e⟩ := List.getElem_of_mem hr
  exact cell_lt (h.node i r (by rw [List.getElem?_eq_getElem hi, e]) x hx).1

/-- The blocks of chains. -/
def blocks (bc bf bm : Nat) (σ : List Row) : List Nat := bc :: bf :: bm :: σ.flatten.map Prod.fst

theorem ChRep.stay {w' : World} (h : ChRep w bc bf bm σ) (hs : ∀ b, b ∈ blocks bc bf bm σ → w'.heap[b]? = w.heap[b]?) : ChRep w' bc bf bm σ := by
  have k0 := hs bc (by simp [blocks])
  have kf := hs bf (by simp [blocks])
  have km := hs bm (by simp [blocks])
  have kn : ∀ x, x ∈ σ.flatten → w'.heap[x.1]? = w.heap[x.1]? := fun x hx => hs _ (by simp only [blocks, List.mem_cons]; exact Or.inr (Or.inr (Or.inr (List.mem_map.2 ⟨x, hx, rfl⟩))))
  have cf : ∀ o i, cl w' (bf, o) i = cl w (bf, o) i := fun o i => World.cell?_of_block kf
  have cn : ∀ x, x ∈ σ.flatten → ∀ i, cl w' (x.1, 0) i = cl w (x.1, 0) i := fun x hx i => World.cell?_of_block (kn x hx)
  refine ⟨(World.cell?_of_block k0).trans h.c0, (World.cell?_of_block k0).trans h.c1, h.pos, h.le, ?_, ?_, ?_, ?_, ?_, h.nd, h.ok, h.apart⟩
  · intro b o hb
    rcases hb with rfl | hb
    · rw [World.frozen?_of_block kf]; exact h.fz _ _ (Or.inl rfl)
    · obtain ⟨x, hx, rfl⟩ := List.mem_map.1 hb
      rw [World.frozen?_of_block (kn x hx)]; exact h.fz _ _ (Or.inr hb)
  · intro i hi
    simp only [cf]; exact h.front i hi
  · intro i r hr x hx
    simp only [cn x (mem_flatten_of hr hx)]; exact h.node i r hr x hx
  · intro i r hr
    have key : ∀ a, a ∈ (bf, i * 6) :: nodes r → ∀ j, cl w' a j = cl w a j := by
      intro a ha j
      rcases List.mem_cons.1 ha with rfl | ha
      · exact cf _ _
      · obtain ⟨x, hx, rfl⟩ := mem_nodes ha
        exact cn x (mem_flatten_of hr hx) j
    exact (h.ring i r hr).frame (fun a ha => key a ha 1) (fun a ha => key a (by simp at ha ⊢; exact ha.symm) 0)
  · obtain ⟨m, hm, hp⟩ := h.map
    exact ⟨m, hm.of_block km, hp⟩

/-- The front, or the first node: where a new node is put. -/
def qq (bf i : Nat) (r : Row) : Ad := hd (nodes r) (bf, i * 6)

theorem ChRep.put {w' : World} (h : ChRep w bc bf bm σ) {i : Nat} {r : Row} (hi : σ[i]? = some r) {l : Lk} (hl : Lok l) (hno : ∀ x, x ∈ σ.flatten → x.2 ≠ l) {b' : Nat} (hb' : w.heap.size ≤ b')
    (hc : ∀ b o, b < w.heap.size → b ≠ bm → w'.cell? ⟨b, o, none⟩ = if (b = bf ∧ o = i * 6 + 1) ∨ (b = (qq bf i r).1 ∧ o = (qq bf i r).2) then some (ptr (b', 0)) else w.cell? ⟨b, o, none⟩)
    (hz : ∀ b o, b < w.heap.size → b ≠ bm → w'.frozen? ⟨b, o, none⟩ = w.frozen? ⟨b, o, none⟩) (nz : ∀ o, w'.frozen? ⟨b', o, none⟩ = false)
    (n0 : cl w' (b', 0) 0 = some (ptr (bf, i * 6))) (n1 : cl w' (b', 0) 1 = some (ptr (qq bf i r))) (n2 : cl w' (b', 0) 2 = some (.int .i64 l.1)) (n3 : cl w' (b', 0) 3 = some (.int .u32 l.2.1))
    (n4 : cl w' (b', 0) 4 = some (.bool l.2.2)) (n5 : cl w' (b', 0) 5 = some (.int .i64 i))
    (hm : ∀ m, MapIs w bm m → m.Perm (pairs σ) → MapIs w' bm (m ++ [(lv l, ptr (b', 0))])) : ChRep w' bc bf bm (σ.set i ((b', l) :: r)) := by
  have hil : i < σ.length := (List.getElem?_eq_some_iff.1 hi).1
  have hperm := flatten_set_perm σ i r (b', l) hi
  have hbf := h.lt_bf
  have hq : (qq bf i r = (bf, i * 6) ∧ r = []) ∨ ∃ y ys, r = y :: ys ∧ qq bf i r = (y.1, 0) := by
    cases r with
    | nil => exact Or.inl ⟨rfl, rfl⟩
    | cons y ys => exact Or.inr ⟨y, ys, rfl, rfl⟩
  -- cells of fronts and nodes away from the two that are written
  have front_same : ∀ j k, k < 6 → ¬ (j = i ∧ k = 1) → ¬ (j = i ∧ k = 0 ∧ r = []) → cl w' (bf, j * 6) k = cl w (bf, j * 6) k := by
    intro j k hk h1 h2
    unfold cl
    rw [hc _ _ hbf h.bf_bm, if_neg]
    rintro (⟨_, e⟩ | ⟨e1, e2⟩)
    · exact h1 (by simp only at e; omega)
    · rcases hq with ⟨hq, hr⟩ | ⟨y, ys, hr, hq⟩
      · rw [hq] at e2; exact h2 ⟨by simp only at e2; omega, by simp only at e2; omega, hr⟩
      · rw [hq] at e1; exact h.ne_bf (mem_flatten_of hi (hr ▸ List.mem_cons_self ..)) e1.symm
  have node_same : ∀ x, x ∈ σ.flatten → ∀ k, ¬ ((x.1, k) = qq bf i r) → cl w' (x.1, 0) k = cl w (x.1, 0) k := by
    intro x hx k hk
    unfold cl
    rw [hc _ _ (h.lt_node hx) (h.ne_bm hx), if_neg]
    rintro (⟨e, _⟩ | ⟨e1, e2⟩)
    · exact h.ne_bf hx e
    · exact hk (Prod.ext e1 (by simpa using e2))
  have qne : ∀ x, x ∈ σ.flatten → ∀ k, 1 ≤ k → ¬ ((x.1, k) = qq bf i r) := by
    intro x hx k hk e
    rcases hq with ⟨hq, hr⟩ | ⟨y, ys, hr, hq⟩
    · rw [hq] at e; exact h.ne_bf hx (by injection e)
    · rw [hq] at e; injection e; omega
  have len : (σ.set i ((b', l) :: r)).length = σ.length := by simp
  refine ⟨?_, ?_, by rw [len]; exact h.pos, by rw [len]; exact h.le, ?_, ?_, ?_, ?_, ?_, ?_, ?_, ?_⟩
  · rw [hc _ _ h.lt_bc h.bc_bm, if_neg, len]; exact h.c0
    rintro (⟨e, _⟩ | ⟨e, _⟩)
    · exact h.bc_bf e
    · rcases hq with ⟨hq, _⟩ | ⟨y, ys, hr, hq⟩
      · rw [hq] at e; exact h.bc_bf e
      · rw [hq] at e; exact h.ne_bc (mem_flatten_of hi (hr ▸ List.mem_cons_self ..)) e.symm
  · rw [hc _ _ h.lt_bc h.bc_bm, if_neg]; exact h.c1
    rintro (⟨e, _⟩ | ⟨e, _⟩)
    · exact h.bc_bf e
    · rcases hq with ⟨hq, _⟩ | ⟨y, ys, hr, hq⟩
      · rw [hq] at e; exact h.bc_bf e
      · rw [hq] at e; exact h.ne_bc (mem_flatten_of hi (hr ▸ List.mem_cons_self ..)) e.symm
  · intro b o hb
    rcases hb with rfl | hb
    · rw [hz _ _ hbf h.bf_bm]; exact h.fz _ _ (Or.inl rfl)
    · obtain ⟨x, hx, rfl⟩ := List.mem_map.1 hb
      rcases List.mem_cons.1 (hperm.mem_iff.1 hx) with rfl | hx
      · exact nz o
      · rw [hz _ _ (h.lt_node hx) (h.ne_bm hx)]; exact h.fz _ _ (Or.inr (List.mem_map.2 ⟨x, hx, rfl⟩))
  · intro j hj
    rw [len] at hj
    rw [front_same j 2 (by omega) (by omega) (by omega), front_same j 3 (by omega) (by omega) (by omega), front_same j 4 (by omega) (by omega) (by omega), front_same j 5 (by omega) (by omega) (by omega)]
    exact h.front j hj
  · intro j s hs x hx
    by_cases hj : i = j
    · subst hj
      rw [List.getElem?_set_self hil] at hs
      obtain rfl := Option.some.inj hs
      rcases List.mem_cons.1 hx with rfl | hx
      · exact ⟨n2, n3, n4, n5⟩
      · have hf := mem_flatten_of hi hx
        rw [node_same x hf 2 (qne x hf 2 (by omega)), node_same x hf 3 (qne x hf 3 (by omega)), node_same x hf 4 (qne x hf 4 (by omega)), node_same x hf 5 (qne x hf 5 (by omega))]
        exact h.node i r hi x hx
    · rw [List.getElem?_set_ne hj] at hs
      have hf := mem_flatten_of hs hx
      rw [node_same x hf 2 (qne x hf 2 (by omega)), node_same x hf 3 (qne x hf 3 (by omega)), node_same x hf 4 (qne x hf 4 (by omega)), node_same x hf 5 (qne x hf 5 (by omega))]
      exact h.node j s hs x hx
  · intro j s hs
    by_cases hj : i = j
    · subst hj
      rw [List.getElem?_set_self hil] at hs
      obtain rfl := Option.some.inj hs
      have hr := h.ring i r hi
      refine Ring.insert (b', 0) hr ?_ n0 n1 ?_ ?_ ?_
      · unfold cl; rw [hc _ _ hbf h.bf_bm, if_pos (Or.inl ⟨rfl, rfl⟩)]
      · unfold cl
        have hlt : (qq bf i r).1 < w.heap.size ∧ (qq bf i r).1 ≠ bm := by
          rcases hq with ⟨hq, _⟩ | ⟨y, ys, hr, hq⟩
          · rw [hq]; exact ⟨hbf, h.bf_bm⟩
          · rw [hq]; have hy := mem_flatten_of hi (hr ▸ List.mem_cons_self .. : y ∈ r); exact ⟨h.lt_node hy, h.ne_bm hy⟩
        show w'.cell? ⟨(qq bf i r).1, (qq bf i r).2 + 0, none⟩ = _
        rw [hc _ _ hlt.1 hlt.2, if_pos (Or.inr ⟨rfl, rfl⟩)]
      · intro b hb
        obtain ⟨x, hx, rfl⟩ := mem_nodes hb
        exact node_same x (mem_flatten_of hi hx) 1 (qne x (mem_flatten_of hi hx) 1 (by omega))
      · intro b hb
        rcases hq with ⟨_, hr⟩ | ⟨y, ys, hr, hq⟩
        · subst hr; simp at hb
        · subst hr
          simp only [List.map_cons, List.cons_append, List.tail_cons, List.mem_append, List.mem_singleton] at hb
          rcases hb with hb | rfl
          · obtain ⟨x, hx, rfl⟩ := List.mem_map.1 hb
            refine node_same x (mem_flatten_of hi (List.mem_cons_of_mem _ hx)) 0 (fun e => ?_)
            rw [hq] at e; injection e with e1
            have := nodup_row Prod.fst h.nd1 hi
            simp only [List.map_cons, List.nodup_cons] at this
            exact this.1 (e1 ▸ List.mem_map.2 ⟨x, hx, rfl⟩)
          · exact front_same i 0 (by omega) (by omega) (by simp)
    · rw [List.getElem?_set_ne hj] at hs
      refine (h.ring j s hs).frame ?_ ?_
      · intro a ha
        rcases List.mem_cons.1 ha with rfl | ha
        · exact front_same j 1 (by omega) (by omega) (by omega)
        · obtain ⟨x, hx, rfl⟩ := mem_nodes ha
          exact node_same x (mem_flatten_of hs hx) 1 (qne x (mem_flatten_of hs hx) 1 (by omega))
      · intro a ha
        rcases List.mem_append.1 ha with ha | ha
        · obtain ⟨x, hx, rfl⟩ := mem_nodes ha
          refine node_same x (mem_flatten_of hs hx) 0 (fun e => ?_)
          rcases hq with ⟨hq, _⟩ | ⟨y, ys, hr, hq⟩
          · rw [hq] at e; injection e with e1; exact h.ne_bf (mem_flatten_of hs hx) e1
          · rw [hq] at e; injection e with e1
            exact ne_of_nodup Prod.fst h.nd1 hs hi (fun e => hj e.symm) hx (hr ▸ List.mem_cons_self ..) e1
        · simp only [List.mem_singleton] at ha
          subst ha
          exact front_same j 0 (by omega) (by omega) (by omega)
  · obtain ⟨m, hm1, hp⟩ := h.map
    refine ⟨_, hm m hm1 hp, ?_⟩
    refine (List.perm_append_singleton _ _).trans ?_
    have := (hperm.map (fun x : Nat × Lk => (lv x.2, ptr (x.1, 0)))).symm
    exact ((hp.cons _)).trans this
  · have := (hperm.map (Prod.snd : Nat × Lk → Lk)).nodup_iff.2
    refine this ?_
    simp only [List.map_cons, List.nodup_cons]
    refine ⟨fun hmem => ?_, h.nd⟩
    obtain ⟨x, hx, e⟩ := List.mem_map.1 hmem
    exact hno x hx e
  · intro x hx
    rcases List.mem_cons.1 (hperm.mem_iff.1 hx) with rfl | hx
    · exact hl
    · exact h.ok x hx
  · have hp2 := hperm.map (Prod.fst : Nat × Lk → Nat)
    have : (bc :: bf :: bm :: (σ.set i ((b', l) :: r)).flatten.map Prod.fst).Perm (b' :: (bc :: bf :: bm :: σ.flatten.map Prod.fst)) := by
      refine ((hp2.cons bm).cons bf |>.cons bc).trans ?_
      simp only [List.map_cons]
      exact (((List.Perm.swap _ _ _).cons _).cons _).trans (((List.Perm.swap _ _ _).cons _).trans (List.Perm.swap _ _ _))
    rw [this.nodup_iff, List.nodup_cons]
    refine ⟨fun hmem => ?_, h.apart⟩
    have : b' < w.heap.size := by
      simp only [List.mem_cons] at hmem
      rcases hmem with rfl | rfl | rfl | hmem
      · exact h.lt_bc
      · exact h.lt_bf
      · exact h.lt_bm
      · obtain ⟨x, hx, rfl⟩ := List.mem_map.1 hmem
        exact h.lt_node hx
    omega

end
end Go.Proofs.YthmokdfigjffjaaGreatDoor
