/- Texts of this proof, merged: Lu. -/
import Derived.Test.YthmokdfigjffjaaGreatDoorMas
import Derived.Test.YthmokdfigjffjaaGreatDoorMay
import Derived.Test.YthmokdfigjffjaaGreatDoorMbb
namespace Go.Proofs.YthmokdfigjffjaaGreatDoor
set_option linter.unusedVariables false
set_option linter.unusedSimpArgs false
open Go.RowKit
/-- What both New tell. -/
def NewP : Bool → World → Ending → World → Prop
  | true, w, e, w' => ∃ g, e = .returned (.tuple #[.pointer (some ⟨g, 0, none⟩), .int .i64 0]) ∧ NoW w w'
  | false, w, e, w' => Ret1 (.tuple #[.pointer none, .int .i64 2]) w e w'
section
variable {gd : Bool} {okA okT : List SV → Bool} {okC : Blk → Bool} {tx : ByteArray} {c x : Nat → Value} {bm clk : Nat} {es : Array MapEntry}
theorem newH_ok {f : FuncId} (hA : ∀ xs, okA xs = true → xs = [.e (.a (cC c))]) (KN : ∀ w, Calls Tryz.prog f #[.agg ((cC c).map CV.den).toArray] w (NewP gd w)) (gl : Gl) (ps : List Nat) (xs : List SV) (σ : Hs) (K : KvR) (_ : Gd gl σ) (h : ∀ s, newH gd okA ps xs σ.L s K = true) : CallN Tryz.prog f xs (some (kvP ps)) σ (Ks ps σ K) := by
  refine ⟨fun w hS _ => ?_⟩
  unfold newH at h
  rcases ha : okA xs with _ | _
  · have := h fun _ => 0
    rw [ha] at this; cases this
  obtain rfl := hA xs ha
  simp only [ha, cond_true] at h
  refine (KN w).mono fun e w' he => ?_
  cases gd with
  | true =>
    obtain ⟨g, rfl, hp⟩ := he
    refine ⟨.t [.c (.v (.pointer (some ⟨g, 0, none⟩))), .c (.i .i64 0)], σ, rfl, ?_, Ext.refl _, hS.fpp hp, KpW.refl _ _, KpW.refl _ _, Ext.refl _, fun s => h (cns g s)⟩
    intro y hy
    simp only [List.mem_cons, List.not_mem_nil, or_false] at hy
    rcases hy with rfl | rfl
    · rfl
    · trivial
  | false =>
    obtain ⟨rfl, hp⟩ := he
    refine ⟨.t [.c (.v (.pointer none)), .c (.i .i64 2)], σ, rfl, ?_, Ext.refl _, hS.fpp hp, KpW.refl _ _, KpW.refl _ _, Ext.refl _, fun s => h s⟩
    intro y hy
    simp only [List.mem_cons, List.not_mem_nil, or_false] at hy
    rcases hy with rfl | rfl
    · rfl
    · trivial
theorem hkL_ok (hA : ∀ xs, okA xs = true → xs = [.e (.a (cC c))]) (KS : ∀ w, Calls Tryz.prog 4 #[.agg ((cC c).map CV.den).toArray] w (NewP gd w)) (KR : ∀ w, Calls Tryz.prog 5 #[.agg ((cC c).map CV.den).toArray] w (NewP gd w))
    (hT : ∀ xs, okT xs = true → xs = [.e (.a (wC x))]) (KT : ∀ w, Calls Tryz.prog 9 #[.agg ((wC x).map CV.den).toArray] w (Ret1 (.string tx) w)) (hC : ∀ e, okC e = true → e = pinW (.map es clk) bm) :
    HookOk Tryz.prog (glC bm bm) (hkL gd okA okT okC tx) := by
  intro f h hf ps xs σ K hg hh
  unfold hkL at hf
  rcases q1 : Nat.beq f 4 with _ | _
  case true =>
    rw [q1] at hf
    obtain rfl := Option.some.inj hf
    obtain rfl := Nat.eq_of_beq_eq_true q1
    exact newH_ok hA KS _ ps xs σ K hg hh
  rw [q1] at hf
  rcases q2 : Nat.beq f 5 with _ | _
  case true =>
    rw [q2] at hf
    obtain rfl := Option.some.inj hf
    obtain rfl := Nat.eq_of_beq_eq_true q2
    exact newH_ok hA KR _ ps xs σ K hg hh
  rw [q2] at hf
  rcases q3 : Nat.beq f 9 with _ | _
  case true =>
    rw [q3] at hf
    obtain rfl := Option.some.inj hf
    obtain rfl := Nat.eq_of_beq_eq_true q3
    unfold txtH at hh
    rcases ha : okT xs with _ | _
    · have := hh fun _ => 0
      rw [ha] at this; cases this
    obtain rfl := hT xs ha
    simp only [ha, cond_true] at hh
    refine ⟨fun w hS _ => (KT w).mono fun e w' ⟨he, hp⟩ => ?_⟩
    subst he
    exact ⟨.e (.c (.v (.string tx))), σ, rfl, rfl, Ext.refl _, hS.fpp hp, KpW.refl _ _, KpW.refl _ _, Ext.refl _, hh⟩
  rw [q3] at hf
  rcases q4 : Nat.beq f 24 with _ | _
  case false => rw [q4] at hf; cases hf
  rw [q4] at hf
  obtain rfl := Option.some.inj hf
  obtain rfl := Nat.eq_of_beq_eq_true q4
  unfold comH at hh
  rcases xs with _ | ⟨y, ys⟩
  case cons => have := hh fun _ => 0; cases this
  rcases hL : σ.L with _ | ⟨e0, r⟩
  case nil => rw [hL] at hh; have := hh fun _ => 0; cases this
  rw [hL] at hh
  rcases ha : okC e0 with _ | _
  · have := hh fun _ => 0
    simp only [ha] at this; cases this
  obtain rfl := hC e0 ha
  simp only [ha, cond_true] at hh
  refine ⟨fun w hS _ => ?_⟩
  have hm : pinW (.map es clk) bm ∈ σ.L := by rw [hL]; exact List.mem_cons_self ..
  obtain ⟨s1, s2⟩ := hS.sat _ hm
  have hgl := hg 1 lastsC (by rfl)
  have hgw := hg 0 [.m 0 bm] (by rfl)
  have cell : ∀ {g : Nat} {cs : List CV}, ((∀ (k : Nat) (x : CV), cs[k]? = some x → σ.w0.cell? ⟨g, k, none⟩ = some x.den) ∧ (∀ x ∈ cs, x.ok σ.L) ∧ g < σ.w0.heap.size ∧ ¬ σ.S g ∧ ∀ e ∈ σ.L, e.b ≠ g) → ∀ (k : Nat) (x : CV), cs[k]? = some x → w.cell? ⟨g, k, none⟩ = some x.den := fun {g cs} q k x hx => by
    obtain ⟨h1, _, h3, h4, h5⟩ := q
    exact (World.cell?_of_block (w := σ.w0) (hS.fp.block g h3 (fun q => q.elim h4 fun ⟨e, he, hb⟩ => h5 e he hb))).trans (h1 k x hx)
  have htb : TbC w := ⟨cell hgl, bm, es, clk, cell hgw 0 _ rfl, s1, s2⟩
  refine (common_ok w htb).mono fun e w' ⟨he, hp⟩ => ?_
  subst he
  rw [← hL] at hh
  exact ⟨.e (.c (.b true)), σ, rfl, trivial, Ext.refl _, hS.fpp hp, KpW.refl _ _, KpW.refl _ _, Ext.refl _, hh⟩
end
attribute [local irreducible] rz
set_option maxRecDepth 100000 in
theorem walk_SharedNew (w : World) (htb : TbC w) (v0 v1 : Value) (g0 : Good Tryz.prog w 27 v0) (g1 : Good Tryz.prog w 49 v1) : Calls Tryz.prog 3 #[v0, v1] w (Ret1 (.bool true) w) := by
  obtain ⟨c, rfl, hc, o, ip, bits, ns, nb, nw, wh, ⟨c0, c1, c2, c3, c4, c5, c6⟩, ho, hip⟩ := cfg_open g0
  obtain ⟨x, rfl, hx, k, p, f, t, b, p0, p1, fl, raw, ⟨⟨x1, x2, x3, x4, x5⟩, x6, x7, x8, x9⟩, hfl⟩ := act_open g1
  obtain ⟨tx, KT⟩ := text_ok k p f t b p0 p1 fl raw hfl
  have hcv : ((cC c).map CV.den).toArray = #[.int .u32 o, .int .u32 ip, .int .i64 bits, .int .i64 ns, .int .i64 nb, .int .i64 nw, .int .i64 wh] := by
    rw [← c0, ← c1, ← c2, ← c3, ← c4, ← c5, ← c6]; rfl
  have hwv : ((wC x).map CV.den).toArray = #[.int .u8 k, .int .u8 p, .int .u8 f, .int .u8 t, .int .u8 b, .int .u8 p0, .int .u8 p1, .int .u8 fl, .string raw] := by
    rw [← x1, ← x2, ← x3, ← x4, ← x5, ← x6, ← x7, ← x8, ← x9]; rfl
  obtain ⟨hl, bm, es, clk, h1, h2, h3⟩ := htb
  have okc2 : ∀ y ∈ [SV.e (.a (cC c)), SV.e (.a (xC x))], y.ok (L0 (.map es clk) (.map es clk) bm bm fun _ => 0) := fun y hy => by
    have one : ∀ z : CV, z.ok [] → (∃ u, z = .v u) → z.ok (L0 (.map es clk) (.map es clk) bm bm fun _ => 0) := fun z hz ⟨u, hu⟩ => by subst hu; exact hz
    simp only [List.mem_cons, List.not_mem_nil, or_false] at hy
    rcases hy with rfl | rfl
    · intro z hz
      refine one z (hc z hz) ?_
      rw [cC_eq] at hz
      obtain ⟨i, _, rfl⟩ := List.mem_map.1 hz
      exact ⟨_, rfl⟩
    · intro z hz
      refine one z (hx z hz) ?_
      rw [xC_eq] at hz
      obtain ⟨i, _, rfl⟩ := List.mem_map.1 hz
      exact ⟨_, rfl⟩
  have dec : ∀ {α : Type} (a : α), ∃ ok : α → Bool, ok a = true ∧ ∀ y, ok y = true → y = a := fun {α} a => ⟨fun y => @decide (y = a) (Classical.propDecidable _), @decide_eq_true _ (Classical.propDecidable _) rfl, fun y h => @of_decide_eq_true _ (Classical.propDecidable _) h⟩
  obtain ⟨okA, a1, a2⟩ := dec [SV.e (.a (cC c))]
  obtain ⟨okT, t1, t2⟩ := dec [SV.e (.a (wC x))]
  obtain ⟨okC, d1, d2⟩ := dec (pinW (.map es clk) bm)
  have KT' : ∀ w, Calls Tryz.prog 9 #[.agg ((wC x).map CV.den).toArray] w (Ret1 (.string tx) w) := fun w => by rw [hwv]; exact KT w
  rcases eCfg_two o ip bits ns nb nw wh with hE | hE
  · have hh := hkL_ok (gd := true) (es := es) (clk := clk) (bm := bm) a2 (fun w => by rw [hcv]; exact sh_good o ip bits ns nb nw wh ho hip hE w) (fun w => by rw [hcv]; exact rf_good o ip bits ns nb nw wh ho hip hE w) t2 KT' d2
    exact run_pin (xs := [SV.e (.a (cC c)), SV.e (.a (xC x))]) hh hl h1 h2 h3 okc2 fun s => by
      have hlr := law_runG okA okT okC tx c x (.map es clk) bm s
      rw [a1, t1, d1] at hlr
      exact hlr
  · have hne : eCfg o ip bits ns nb nw wh ≠ 0 := by omega
    have hh := hkL_ok (gd := false) (es := es) (clk := clk) (bm := bm) a2 (fun w => by rw [hcv]; exact sh_bad o ip bits ns nb nw wh ho hip hne w) (fun w => by rw [hcv]; exact rf_bad o ip bits ns nb nw wh ho hip hne w) t2 KT' d2
    exact run_pin (xs := [SV.e (.a (cC c)), SV.e (.a (xC x))]) hh hl h1 h2 h3 okc2 fun s => by
      have hlr := law_runB okA okT okC tx c x (.map es clk) bm s
      rw [a1, t1, d1] at hlr
      exact hlr
end Go.Proofs.YthmokdfigjffjaaGreatDoor
