/- Chapter 18, EntriesAmong: slices.SortStableFunc of own entries; entries.Sort. -/
import Derived.Test.YtaiimkcmgiceeaaDoorAmB
import Derived.Test.YtaiimkcmgiceeaaDoorAmW
namespace Go.Proofs.YtaiimkcmgiceeaaDoor
set_option linter.unusedVariables false
set_option linter.unusedSimpArgs false
open Go.RowKit Go.Lib Go.Sort Go.Shelf
/-- Entry i; beyond the end the last one. -/
def lastE (F : Nat → EntD) (n i : Nat) : EntD := F (min i (n - 1))
def encE (F : Nat → EntD) (n i : Nat) : List Value := (lastE F n i).cs
def keyE (F : Nat → EntD) (n i : Nat) : Nat := (lastE F n i).key
theorem holdsK_of {B : Nat} {W : World} {T : TypeId} {g cap n : Nat} {E F : Nat → EntD} {H : Nat → Nat} {O : Nat → HoldO} (h : OwnE B W T (.slice (some ⟨g, 0, none⟩) n cap) n E F H O) (hn : 0 < n) :
    RowK (encE F n) 13 W g 0 (Array.range n) := by
  have hrow := h.row
  rcases h.row.2 with ⟨e, _⟩ | ⟨g', cap', cur, e, hg, hh, h1, h2, h3, h4⟩
  · cases e
  · injection e with e1 e2 e3
    injection e1 with e1
    injection e1 with e1
    subst e1
    refine ⟨fun x => rfl, fun x => cs_one _, fun t ht => ?_, (Array.getElem?_eq_some_iff.1 hh).1⟩
    have ht' : t < n * 13 := by simpa using ht
    refine ⟨?_, by simp [World.frozen?, hh]⟩
    rw [get_flatK _ _ _ _ (by simpa using ht')]
    have hi : t / 13 < n := by omega
    have hr : (Array.range n)[t / 13]! = t / 13 := by simp [getElem!_def, hi]
    rw [hr]
    have hm : min (t / 13) (n - 1) = t / 13 := by omega
    have hl : t % 13 < (encE F n (t / 13)).length := by show t % 13 < 13; omega
    have e5 : (F (t / 13)).cs[t % 13]? = some ((encE F n (t / 13))[t % 13]!) := by
      unfold encE lastE
      rw [hm]
      rw [List.getElem!_eq_getElem?_getD, List.getElem?_eq_getElem (by show t % 13 < 13; omega)]
      rfl
    have e6 := World.ownsRow.cells hrow rfl _ _ (flatE_get F n (t / 13) (t % 13) _ hi e5)
    rw [add_eq, show t / 13 * 13 + t % 13 = t by omega] at e6
    exact e6
theorem lastE_ok {n : Nat} {E F : Nat → EntD} (hn : 0 < n) (hok : ∀ i, i < n → (E i).Ok) (hs : ∀ i, i < n → ∃ ad c, F i = (E i).on ad c) (i : Nat) : (lastE F n i).Ok := by
  unfold lastE
  obtain ⟨ad, c, e⟩ := hs (min i (n - 1)) (by omega)
  have := hok (min i (n - 1)) (by omega)
  rw [e]; exact ⟨this.r, this.a, this.p, this.b, this.q, this.r2, this.a2, this.p2, this.b2, this.q2, this.st, this.dl, this.nm⟩
theorem cmpE {n : Nat} {E F : Nat → EntD} (hn : 0 < n) (hok : ∀ i, i < n → (E i).Ok) (hs : ∀ i, i < n → ∃ ad c, F i = (E i).on ad c) (blk size : Nat) (w : World) :
    CmpLays Tryd.prog 24 #[] (encE F n) 13 (kcf (keyE F n)) blk 0 size w := fun m os dk _ x y => by
  have hx := lastE_ok hn hok hs x
  have hy := lastE_ok hn hok hs y
  rw [Array.append_empty]
  exact order_gr (lastE F n x).r (lastE F n x).a (lastE F n x).p (lastE F n x).b (lastE F n x).q (lastE F n x).r2 (lastE F n x).a2 (lastE F n x).p2 (lastE F n x).b2 (lastE F n x).q2 (lastE F n x).st (lastE F n x).dl _ (lastE F n y).r (lastE F n y).a (lastE F n y).p (lastE F n y).b (lastE F n y).q (lastE F n y).r2 (lastE F n y).a2 (lastE F n y).p2 (lastE F n y).b2 (lastE F n y).q2 (lastE F n y).st (lastE F n y).dl _ hx.a hx.p hx.b hx.q hy.a hy.p hy.b hy.q _
/-- Behind the sort. -/
structure SortedE (w0 : World) (B : Nat) (w : World) (v : Value) (n : Nat) (E F : Nat → EntD) (H : Nat → Nat) (O : Nat → HoldO) (π : Array Nat) : Prop where
  perm : PermIn 0 n (Array.range n) π
  sorted : SortedIn (lexB (keyE F n)) 0 n π
  ents : ∃ sl c, v = .slice sl n c ∧ n ≤ c ∧ (∀ i, i < n → ∃ b, sl = some ⟨b, 0, none⟩ ∧ B ≤ b ∧ ∀ j x, (F π[i]!).cs[j]? = some x → w.cell? ⟨b, 0 + i * 13 + j, none⟩ = some x)
  hold : ∀ i, i < n → 0 < (E i).n → (F i).ad = some ⟨H i, 0, none⟩ ∧ B ≤ H i ∧ Holds w (H i) 0 (E i).n (hv (O i) (E i).n) ∧ v.ownBlock ≠ some (H i) ∧ Frz w (H i)
  low : NoW w0 w
set_option maxHeartbeats 4000000 in
theorem sts_nil (w : World) : Calls Tryd.prog 23 #[.slice none 0 0, .func (.func 24) #[] #[]] w fun e w' => e = .returned (.tuple #[]) ∧ NoW w w' := by
  go_enter Tryd.func23, Tryd.ntmps23
  go_wp2_with fail
  refine (show Calls _ 44 _ _ (fun e w' => e = .returned (.tuple #[]) ∧ NoW w w') from ?_).mono ?_
  · go_enter Tryd.func44, Tryd.ntmps44
    go_wp2_with fail
    refine wp_loop_rounds 1 ?_
    rw [rounds_succ]
    go_wp2_with fail
    refine (show Calls _ 55 _ _ (fun e w' => e = .returned (.tuple #[]) ∧ NoW w w') from ?_).mono ?_
    · go_enter Tryd.func55, Tryd.ntmps55
      go_wp2_with fail
      refine wp_loop_rounds 1 ?_
      rw [rounds_succ]
      go_wp2_with fail
      go_end0
      exact ⟨rfl, Fp.refl _ _⟩
    · rintro e x ⟨rfl, hp⟩
      have Hp := Lib.hid hp
      clear hp
      go_wp2_with fail
      refine wp_loop_rounds 1 ?_
      rw [rounds_succ]
      go_wp2_with fail
      go_end0
      exact ⟨rfl, Hp.out⟩
  · rintro e x ⟨rfl, hp⟩
    have Hp := Lib.hid hp
    clear hp
    go_wp2_with fail
    go_end0
    exact ⟨rfl, Hp.out⟩
theorem swk_fp {F : Nat → EntD} {n g : Nat} {W w' : World} {d : Array Nat} (h : SWK (encE F n) 13 W g 0 d w') : Fp (fun b => b = g) W w' := by
  obtain ⟨m, os, rfl⟩ := h
  refine ⟨rfl, rfl, rfl, by show W.heap.size ≤ ((putRowK (encE F n) 13 (Sort.ahead W m) g 0 d).heap ++ os).size; rw [Array.size_append, size_putRowK]; exact Nat.le_add_right _ _, fun k hk hne => ?_⟩
  show ((putRowK (encE F n) 13 (Sort.ahead W m) g 0 d).heap ++ os)[k]? = _
  have hs : k < (putRowK (encE F n) 13 (Sort.ahead W m) g 0 d).heap.size := by rw [size_putRowK]; exact hk
  rw [Array.getElem?_append, if_pos hs]
  simp only [putRowK, putRow, mapBlock]
  rw [Array.getElem?_modify, if_neg (fun e => hne e.symm)]
  rfl
set_option maxHeartbeats 4000000 in
theorem sts_ok {w0 W : World} {v : Value} {n : Nat} {E F : Nat → EntD} {H : Nat → Nat} {O : Nat → HoldO} (hn40 : n ≤ 40) (hok : ∀ i, i < n → (E i).Ok) (h : OwnE w0.heap.size W 32 v n E F H O) (hp : NoW w0 W) :
    Calls Tryd.prog 23 #[v, .func (.func 24) #[] #[]] W fun e w' => e = .returned (.tuple #[]) ∧ (∃ π, SortedE w0 w0.heap.size w' v n E F H O π) ∧ NoW w0 w' := by
  have hrow := h.row
  rcases hrow.2 with ⟨rfl, rfl⟩ | ⟨g, cap, cur, rfl, hg, hh, h1, h2, h3, h4⟩
  · refine (sts_nil W).mono ?_
    rintro e w' ⟨rfl, hq⟩
    have hz := hp.trans hq (fun _ _ h => h)
    exact ⟨rfl, ⟨#[], permIn_refl _ _ _, fun i j _ _ h => by omega, ⟨none, 0, rfl, Nat.le_refl _, fun i hi => by omega⟩, fun i hi => by omega, hz⟩, hz⟩
  · by_cases hn : 0 < n
    · have R := holdsK_of h hn
      have hz : (Array.range n).size = n := by simp
      have hC := cmpE hn hok h.same g (Array.range n).size W
      have eg : ∀ args w, (callFunc 24 args).run Tryd.prog w = .ok (.enter 24 args) w := enters_of Tryd.func24 (by kernel_rfl) rfl
      have key : Calls Tryd.prog 44 #[.slice (some ⟨g, 0, none⟩) (Array.range n).size cap, .int .i64 (Array.range n).size, .func (.func 24) #[] #[]] W fun e w' => e = .returned (.tuple #[]) ∧ SWK (encE F n) 13 W g 0 (stabM (kcf (keyE F n)) (Array.range n)) w' := by
        by_cases c1 : n < 20
        · exact stab_0 srtL (encE F n) (kcf (keyE F n)) _ #[] g 0 cap (Array.range n) W eg hC R (swo_key _) (by omega)
        · by_cases c2 : n = 20
          · exact stab_1 srtL (encE F n) (kcf (keyE F n)) _ #[] g 0 cap (Array.range n) W eg hC R (swo_key _) (by omega)
          · by_cases c3 : n < 40
            · exact stab_2 srtL (encE F n) (kcf (keyE F n)) _ #[] g 0 cap (Array.range n) W eg hC R (swo_key _) (by omega)
            · exact stab_3 srtL (encE F n) (kcf (keyE F n)) _ #[] g 0 cap (Array.range n) W eg hC R (swo_key _) (by omega)
      rw [hz] at key
      have K := Lib.hid key
      have post : ∀ w', SWK (encE F n) 13 W g 0 (stabM (kcf (keyE F n)) (Array.range n)) w' → (∃ π, SortedE w0 w0.heap.size w' (.slice (some ⟨g, 0, none⟩) n cap) n E F H O π) ∧ NoW w0 w' := fun w' hS => by
        obtain ⟨p1, s1⟩ := stab_ok (keyE F n) n
        have hf := swk_fp hS
        have hlow : NoW w0 w' := hp.trans hf (fun i hi e => by have e' : i = g := e; omega)
        have zs : (stabM (kcf (keyE F n)) (Array.range n)).size = n := p1.1.trans hz
        have hK := hS.holds R.hblk R.hH (by rw [zs, hz])
        have hlt : ∀ i, i < n → (stabM (kcf (keyE F n)) (Array.range n))[i]! < n := fun i hi => permIn_all _ _ 0 n (fun v => v < n) (by omega) p1 (fun j _ hj => by simp [getElem!_def, hj]) i (Nat.zero_le _) hi
        refine ⟨⟨_, p1, s1, ⟨some ⟨g, 0, none⟩, cap, rfl, h1, fun i hi => ⟨g, rfl, hg, fun j x hj => ?_⟩⟩, fun i hi hi0 => ?_, hlow⟩, hlow⟩
        · have hj' : j < 13 := (List.getElem?_eq_some_iff.1 hj).1
          have e1 := (hK (i * 13 + j) (by simp [zs]; omega)).1
          rw [get_flatK _ _ _ _ (by rw [zs]; omega), show (i * 13 + j) / 13 = i by omega, show (i * 13 + j) % 13 = j by omega] at e1
          rw [show 0 + i * 13 + j = 0 + (i * 13 + j) by omega, e1]
          have e2 : min (stabM (kcf (keyE F n)) (Array.range n))[i]! (n - 1) = (stabM (kcf (keyE F n)) (Array.range n))[i]! := by have := hlt i hi; omega
          unfold encE lastE
          rw [e2, List.getElem!_eq_getElem?_getD, hj]
          rfl
        · obtain ⟨q1, q2, q3, q4⟩ := h.hold i hi hi0
          have hne : H i ≠ g := fun e => q4.1 (by rw [e]; rfl)
          exact ⟨q1, q2, ⟨q3.len, fun j x hj => (hf.cell (p := ⟨H i, 0 + j, none⟩) q3.lt hne).trans (q3.cell j x hj), q3.one, Nat.lt_of_lt_of_le q3.lt hf.size⟩, q4.1, (q4.2 rfl).low q3.lt hf hne⟩
      have HP := Lib.hid post
      clear key post R hC eg h hp hrow
      go_enter Tryd.func23, Tryd.ntmps23
      go_wp2_with fail
      refine K.out.mono ?_
      rintro e x ⟨rfl, hS⟩
      have hq := HP.out x hS
      have Hq := Lib.hid hq
      clear hq hS
      go_wp2_with fail
      go_end0
      exact ⟨rfl, Hq.out⟩
    · have := h.nil0 (by omega); cases this
/-- entries.Sort. -/
theorem sort_ok (sl : Option Addr) (n c : Nat) (E : Nat → EntD) (O : Nat → HoldO) (hn : n ≤ 40) (hh : ∀ i, i < n → (E i).n ≤ 100) (w : World) (hE : Ents w sl n E) (hH : ∀ i, i < n → HoldsIn w (E i).ad (E i).n (hv (O i) (E i).n)) :
    Calls Tryd.prog 7 #[.slice sl n c] w fun e w' => ∃ v F H π, e = .returned v ∧ (∀ i, i < n → ∃ ad c, F i = (E i).on ad c) ∧ (∀ i j, i < j → j < n → 0 < (E i).n → 0 < (E j).n → H i ≠ H j) ∧ SortedE w w.heap.size w' v n E F H O π := by
  refine (sortE_ok sl n c E O (by omega) hh (fun v F H W w' => ∃ π, SortedE w w.heap.size w' v n E F H O π) w hE hH (fun W v F H h hp => sts_ok hn (fun i hi => hE.ok i hi) h hp)).mono ?_
  rintro e w' ⟨v, F, H, W, rfl, hO, ⟨π, hS⟩, _⟩
  exact ⟨v, F, H, π, rfl, hO.same, hO.inj, hS⟩
end Go.Proofs.YtaiimkcmgiceeaaDoor
