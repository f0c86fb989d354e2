/- Chapter 18: the document's protocols, times, flows (of other texts). · Chapter 18: whether the document says that an entry may be (of other texts). · Chapter 18: the document's Doc, Same of entries (of other texts). -/
import Derived.Test.YtmghjaoodnkjlaaGreatDoorEnD
import Derived.Test.YtmghjaoodnkjlaaGreatDoorEnL
import Derived.Test.YtmghjaoodnkjlaaGreatDoorSeeE
namespace Go.Proofs.YtmghjaoodnkjlaaGreatDoor
set_option linter.unusedVariables false
set_option linter.unusedSimpArgs false
open Go.RowKit Go.Lib Go.Sort
theorem word_ok (k : Nat) (w : World) : Calls Tryz.prog 41 #[.int .u8 k] w fun e w' => e = .returned (str (wordOf k)) ∧ w' = w := by
  by_cases h1 : k = 1
  · subst h1
    go_enter Tryz.func41, Tryz.ntmps41
    go_wp2_with fail
    go_ret
    exact ⟨rfl, rfl⟩
  · have e1 : ((k : Int) == 1) = false := beq_eq_false_iff_ne.2 (by omega)
    by_cases h6 : k = 6
    · subst h6
      go_enter Tryz.func41, Tryz.ntmps41
      go_wp2_with fail
      go_ret
      exact ⟨rfl, rfl⟩
    · have e6 : ((k : Int) == 6) = false := beq_eq_false_iff_ne.2 (by omega)
      by_cases h17 : k = 17
      · subst h17
        go_enter Tryz.func41, Tryz.ntmps41
        go_wp2_with fail
        go_ret
        exact ⟨rfl, rfl⟩
      · have e17 : ((k : Int) == 17) = false := beq_eq_false_iff_ne.2 (by omega)
        rw [show wordOf k = [] by simp [flowN, wordOf, h1, h6, h17]]
        go_enter Tryz.func41, Tryz.ntmps41
        go_wp2_with fail
        go_ret
        exact ⟨rfl, rfl⟩
theorem word_pos (k : Nat) (h : isWord k = true) : ∃ x l, wordOf k = x :: l := by
  simp only [isWord, decide_eq_true_eq] at h
  rcases h with rfl | rfl | rfl
  · exact ⟨_, _, rfl⟩
  · exact ⟨_, _, rfl⟩
  · exact ⟨_, _, rfl⟩
theorem word_nil (k : Nat) (h : isWord k = false) : wordOf k = [] := by
  simp only [isWord, decide_eq_false_iff_not, not_or] at h
  simp [wordOf, h.1, h.2.1, h.2.2]
set_option maxHeartbeats 2000000 in
theorem rmay8_ok (k a p b q : Nat) (w : World) : Calls Tryz.prog 18 #[.agg #[.int .u8 k, .int .u32 a, .int .u16 p, .int .u32 b, .int .u16 q]] w (Ret1 (.bool (tupB k p q)) w) := by
  have kk := fun W => word_ok k W
  rcases hb : isWord k with _ | _
  · have e : tupB k p q = false := by simp [tupB, hb]
    rw [e]
    rw [word_nil k hb] at kk
    have K := Lib.hid kk
    clear kk e hb
    go_enter Tryz.func18, Tryz.ntmps18
    go_wp2_with fail
    have hn : NoW w (w.alloc (.cells #[.int .u8 k, .int .u32 a, .int .u16 p, .int .u32 b, .int .u16 q] 29)) := (Fp.refl _ _).alloc _
    refine (K.out _).mono ?_
    rintro e v ⟨rfl, rfl⟩
    go_wp2_with fail
    go_ret
    exact ⟨rfl, hn⟩
  · obtain ⟨x, wl, hwd⟩ := word_pos k hb
    rw [hwd] at kk
    by_cases k1 : k = 1
    · have ek2 : ((k : Int) != 1) = false := by rw [k1]; rfl
      by_cases p0 : p = 0
      · have ep : ((p : Int) == 0) = true := by rw [p0]; rfl
        rw [show tupB k p q = true by simp [tupB, hb, p0]]
        have K := Lib.hid kk
        clear kk k1 p0 hb hwd
        go_enter Tryz.func18, Tryz.ntmps18
        go_wp2_with fail
        have hn : NoW w (w.alloc (.cells #[.int .u8 k, .int .u32 a, .int .u16 p, .int .u32 b, .int .u16 q] 29)) := (Fp.refl _ _).alloc _
        refine (K.out _).mono ?_
        rintro e v ⟨rfl, rfl⟩
        go_wp2_with fail
        go_ret
        exact ⟨rfl, hn⟩
      · have ep : ((p : Int) == 0) = false := beq_eq_false_iff_ne.2 (by omega)
        rw [show tupB k p q = decide (q = 0) by have := hb; rw [k1] at this; simp [tupB, this, p0, k1]]
        have K := Lib.hid kk
        clear kk k1 p0 hb hwd
        by_cases q0 : q = 0
        · have eq : ((q : Int) == 0) = true := by rw [q0]; rfl
          rw [decide_eq_true q0]
          clear q0
          go_enter Tryz.func18, Tryz.ntmps18
          go_wp2_with fail
          have hn : NoW w (w.alloc (.cells #[.int .u8 k, .int .u32 a, .int .u16 p, .int .u32 b, .int .u16 q] 29)) := (Fp.refl _ _).alloc _
          refine (K.out _).mono ?_
          rintro e v ⟨rfl, rfl⟩
          go_wp2_with fail
          go_ret
          exact ⟨rfl, hn⟩
        · have eq : ((q : Int) == 0) = false := beq_eq_false_iff_ne.2 (by omega)
          rw [decide_eq_false q0]
          clear q0
          go_enter Tryz.func18, Tryz.ntmps18
          go_wp2_with fail
          have hn : NoW w (w.alloc (.cells #[.int .u8 k, .int .u32 a, .int .u16 p, .int .u32 b, .int .u16 q] 29)) := (Fp.refl _ _).alloc _
          refine (K.out _).mono ?_
          rintro e v ⟨rfl, rfl⟩
          go_wp2_with fail
          go_ret
          exact ⟨rfl, hn⟩
    · have ek2 : ((k : Int) != 1) = true := by simp; omega
      rw [show tupB k p q = true by simp [tupB, hb, k1]]
      have K := Lib.hid kk
      clear kk k1 hb hwd
      go_enter Tryz.func18, Tryz.ntmps18
      go_wp2_with fail
      have hn : NoW w (w.alloc (.cells #[.int .u8 k, .int .u32 a, .int .u16 p, .int .u32 b, .int .u16 q] 29)) := (Fp.refl _ _).alloc _
      refine (K.out _).mono ?_
      rintro e v ⟨rfl, rfl⟩
      go_wp2_with fail
      go_ret
      exact ⟨rfl, hn⟩

theorem tup_eq2 (r a p b q r2 a2 p2 b2 q2 : Nat) (W : World) : (binOp .eql 29 (.agg #[.int .u8 r, .int .u32 a, .int .u16 p, .int .u32 b, .int .u16 q]) (.agg #[.int .u8 r2, .int .u32 a2, .int .u16 p2, .int .u32 b2, .int .u16 q2])).run Tryz.prog W = .ok (.bool (decide (r = r2 ∧ a = a2 ∧ p = p2 ∧ b = b2 ∧ q = q2))) W := by
  exact tup_eql r2 a2 p2 b2 q2 r a p b q W
end Go.Proofs.YtmghjaoodnkjlaaGreatDoor
namespace Go.Proofs.YtmghjaoodnkjlaaGreatDoor
set_option linter.unusedVariables false
set_option linter.unusedSimpArgs false
open Go.RowKit Go.Lib Go.Sort
theorem toN_nonneg (f : Nat) (hf : f < 4) (s : Int) : 0 ≤ toN f s := by
  unfold toN
  split
  · obtain ⟨n, rfl⟩ : ∃ n : Nat, s = n := ⟨s.toNat, by omega⟩
    have hn : n < 8 := by omega
    rw [Int.toNat_natCast]
    have key : ∀ f : Fin 4, ∀ n : Fin 8, 0 ≤ lastN f.val n.val := by decide +kernel
    exact key ⟨f, hf⟩ ⟨n, hn⟩
  · exact Int.le_refl _
end Go.Proofs.YtmghjaoodnkjlaaGreatDoor
namespace Go.Proofs.YtmghjaoodnkjlaaGreatDoor
set_option linter.unusedVariables false
set_option linter.unusedSimpArgs false
open Go.RowKit Go.Lib Go.Sort

theorem op_append_at {P : Program} {w : World} {o : Oper} {a : Act} {K : Act → World → Prop} {Q : Exit → Act → World → Prop} (s x : Operand) (t : TypeId)
    (ho : o.op = .call { callee := .builtin .append, args := #[s, x], argTypes := #[t, t] })
    (base : Nat) (e : TypeId) (z : Value) (size : Nat) (ht : P.underlying t = some (.slice e)) (hi : ∃ i, P.info? e = some i ∧ i.zero = some z ∧ i.size = size ∧ i.bytes ≤ 65536)
    (hzs : z.cells.size = size) (hsz : 0 < size) (v : Value) (n : Nat) (xs : List Value) (hs : a.eval s = v) (hown : w.ownsRow base e size v n xs)
    (ad : Addr) (m c : Nat) (news : List Value) (hx : a.eval x = .slice (some ad) m c) (hl : news.length = m * size) (hnews : ∀ j u, news[j]? = some u → w.cell? (ad.add j) = some u) (h1 : ∀ u ∈ news, u.oneCell' = true)
    (hn : n + m ≤ 1048576) (hbase : base ≤ w.heap.size)
    (h : ∀ v' w', w'.ownsRow base e size v' (n + m) (xs ++ news) → w.grownBy w' v.ownBlock → (v' = .slice none 0 0 ↔ v = .slice none 0 0 ∧ m = 0) → K (a.put o.dst v') w') : Oper.wp P o a w K Q := by
  obtain ⟨i, hi, hz, rfl, hb⟩ := hi
  obtain ⟨v', w', hr, h2, h3, h4⟩ := run_append_own (P := P) w base t o.type e i z i.size i.bytes ht hi hz rfl rfl hzs hsz v n xs hown ad m c news hl hnews h1 (by unfold maxLen; omega) (by have := Nat.mul_le_mul hn hb; omega) hbase
  unfold Oper.wp execOp
  simp only [ho, resolve, invoke, builtin, Sem.run_bind, Sem.run_pure, Result.andThen_ok, List.map_toArray, List.map_cons, List.map_nil, hs, hx, hr]
  exact h v' w' h2 h3 h4
def rholdZ : Value := .agg #[.int .u32 0, .int .u16 0, .int .u32 0, .int .u16 0]
/-- The holds' cells, wherever they stand. -/
def HoldsIn (w : World) (ad : Option Addr) (n : Nat) (ys : List Value) : Prop := 0 < n → ∃ hb ho, ad = some ⟨hb, ho, none⟩ ∧ Holds w hb ho n ys
theorem HoldsIn.low {w w' : World} {ad : Option Addr} {n : Nat} {ys : List Value} (h : HoldsIn w ad n ys) (hf : NoW w w') : HoldsIn w' ad n ys := fun hn => by
  obtain ⟨hb, ho, e, hh⟩ := h hn
  exact ⟨hb, ho, e, hh.low hf⟩

theorem holdsV_one (oa op ia ip : Nat → Nat) (n : Nat) : ∀ x ∈ holdsV oa op ia ip n, x.oneCell' = true := by
  intro x hx
  simp only [holdsV, List.mem_flatMap, holdV, List.mem_cons, List.not_mem_nil, or_false] at hx
  obtain ⟨i, _, (rfl | rfl | rfl | rfl)⟩ := hx <;> rfl
/-- Are the holds the same? -/
def eqAt (oa op ia ip oa2 op2 ia2 ip2 : Nat → Nat) (i : Nat) : Prop := oa i = oa2 i ∧ op i = op2 i ∧ ia i = ia2 i ∧ ip i = ip2 i
instance (oa op ia ip oa2 op2 ia2 ip2 : Nat → Nat) (i : Nat) : Decidable (eqAt oa op ia ip oa2 op2 ia2 ip2 i) := by unfold eqAt; infer_instance
def eqHolds (n n2 : Nat) (oa op ia ip oa2 op2 ia2 ip2 : Nat → Nat) : Bool := decide (n = n2) && (List.range n).all fun i => decide (eqAt oa op ia ip oa2 op2 ia2 ip2 i)
theorem eqHolds_no {n : Nat} {oa op ia ip oa2 op2 ia2 ip2 : Nat → Nat} {k : Nat} (hk : k < n) (h : ¬ eqAt oa op ia ip oa2 op2 ia2 ip2 k) : eqHolds n n oa op ia ip oa2 op2 ia2 ip2 = false := by
  rw [eqHolds, Bool.and_eq_false_iff]
  refine .inr ?_
  rw [List.all_eq_false]
  exact ⟨k, List.mem_range.2 hk, by simpa using h⟩
theorem eqHolds_yes {n : Nat} {oa op ia ip oa2 op2 ia2 ip2 : Nat → Nat} (h : ∀ k, k < n → eqAt oa op ia ip oa2 op2 ia2 ip2 k) : eqHolds n n oa op ia ip oa2 op2 ia2 ip2 = true := by
  rw [eqHolds, Bool.and_eq_true]
  refine ⟨by simp, ?_⟩
  rw [List.all_eq_true]
  intro k hk
  exact decide_eq_true (h k (List.mem_range.1 hk))
theorem tup_neq2 (r a p b q r2 a2 p2 b2 q2 : Nat) (W : World) : (binOp .neq 29 (.agg #[.int .u8 r, .int .u32 a, .int .u16 p, .int .u32 b, .int .u16 q]) (.agg #[.int .u8 r2, .int .u32 a2, .int .u16 p2, .int .u32 b2, .int .u16 q2])).run Tryz.prog W = .ok (.bool (!decide (r = r2 ∧ a = a2 ∧ p = p2 ∧ b = b2 ∧ q = q2))) W := by
  have beq : ∀ x y : Nat, x ≠ y → ((x : Int) == (y : Int)) = false := fun x y h => beq_eq_false_iff_ne.2 (by omega)
  by_cases h1 : r = r2
  · subst h1
    by_cases h2 : a = a2
    · subst h2
      by_cases h3 : p = p2
      · subst h3
        by_cases h4 : b = b2
        · subst h4
          by_cases h5 : q = q2
          · subst h5; simp only [and_self, decide_true, Bool.not_true]; go_simp
          · have e := beq _ _ h5
            rw [decide_eq_false (by simp [h5])]; go_simp
        · have e := beq _ _ h4
          rw [decide_eq_false (by simp [h4])]; go_simp
      · have e := beq _ _ h3
        rw [decide_eq_false (by simp [h3])]; go_simp
    · have e := beq _ _ h2
      rw [decide_eq_false (by simp [h2])]; go_simp
  · have e := beq _ _ h1
    rw [decide_eq_false (by simp [h1])]; go_simp
end Go.Proofs.YtmghjaoodnkjlaaGreatDoor
