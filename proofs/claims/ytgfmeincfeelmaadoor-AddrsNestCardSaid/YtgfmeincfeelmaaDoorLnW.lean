/- Chapter 03: AddrsNest's walk (written by gennest.py). -/
import Derived.Test.YtgfmeincfeelmaaDoorLtW
import Derived.Test.YtgfmeincfeelmaaDoorAdWh
import Derived.Deep.DeepCutAuto
namespace Go.Proofs.YtgfmeincfeelmaaDoor
set_option linter.unusedVariables false
set_option linter.unusedSimpArgs false
open Go.RowKit Go.Lib Go.Sort

set_option maxHeartbeats 4000000 in
set_option maxRecDepth 100000 in
theorem nest_core (w : World) (ht : Tb w) (a b x y m n : Nat) (ip jp : Nat) (hm : m ≤ 32) (s la : Nat) (hp inn : Bool) (hs : s = 2 ^ (32 - m)) (hs32 : s ≤ 4294967296) (hla : la + 1 = ip + s) (hlt : la < 4294967296)
    (hloc : b < ip ∧ hp = false ∨ ip ≤ b ∧ b ≤ la ∧ hp = true ∨ la < b ∧ hp = false) (hx : x < 256) (hy : y < 256)
    (hmx : max ((x : Int).tmod 33) ((y : Int).tmod 33) = (m : Int)) (hmn : min ((x : Int).tmod 33) ((y : Int).tmod 33) = (n : Int))
    (k0 : ∀ W, Calls Tryd.prog 15 #[.int .u32 a, .int .u8 m] W (Ret1 (.agg #[.int .u32 ip, .int .i64 m]) W))
    (k1 : ∀ W, Calls Tryd.prog 15 #[.int .u32 b, .int .u8 n] W (Ret1 (.agg #[.int .u32 jp, .int .i64 n]) W))
    (k2 : ∀ W, Calls Tryd.prog 16 #[.agg #[.int .u32 ip, .int .i64 m], .int .u32 b] W (Ret1 (.bool hp) W))
    (k3 : ∀ W, Calls Tryd.prog 16 #[.agg #[.int .u32 ip, .int .i64 m], .int .u32 ip] W (Ret1 (.bool true) W))
    (k4 : ∀ W, Calls Tryd.prog 16 #[.agg #[.int .u32 ip, .int .i64 m], .int .u32 la] W (Ret1 (.bool true) W))
    (k5 : ∀ W, Calls Tryd.prog 16 #[.agg #[.int .u32 ip, .int .i64 m], .int .u32 a] W (Ret1 (.bool true) W))
    (k6 : ∀ W, Calls Tryd.prog 16 #[.agg #[.int .u32 jp, .int .i64 n], .int .u32 a] W (Ret1 (.bool inn) W))
    (k7 : ∀ W, Calls Tryd.prog 16 #[.agg #[.int .u32 jp, .int .i64 n], .int .u32 ip] W (Ret1 (.bool inn) W))
    (k8 : ∀ W, Calls Tryd.prog 16 #[.agg #[.int .u32 jp, .int .i64 n], .int .u32 la] W (Ret1 (.bool inn) W))
    (k9 : inn = true → hp = true → ∀ W, Calls Tryd.prog 16 #[.agg #[.int .u32 jp, .int .i64 n], .int .u32 b] W (Ret1 (.bool true) W)) :
    Calls Tryd.prog 4 #[.int .u32 a, .int .u32 b, .agg #[.int .u8 x, .int .u8 y]] w (Ret1 (.bool true) w) := by
  have Ht := Lib.hid ht
  have K0 := Lib.hid k0
  have K1 := Lib.hid k1
  have K2 := Lib.hid k2
  have K3 := Lib.hid k3
  have K4 := Lib.hid k4
  have K5 := Lib.hid k5
  have K6 := Lib.hid k6
  have K7 := Lib.hid k7
  have K8 := Lib.hid k8
  have K9 := Lib.hid k9
  have Hs := Lib.hid hs
  have Hla := Lib.hid hla
  have Hloc := Lib.hid hloc
  clear ht k0 k1 k2 k3 k4 k5 k6 k7 k8 k9 hs hla hloc
  go_enter Tryd.func4, Tryd.ntmps4
  go_wp2_with fail
  have hw0 : NoW w (w.alloc (.cells #[.int .u8 x, .int .u8 y] 38)) := (Fp.refl _ _).alloc _
  have hb5 := heap_alloc_new w (.cells #[.int .u8 x, .int .u8 y] 38)
  generalize w.alloc (.cells #[.int .u8 x, .int .u8 y] 38) = w0 at *
  generalize w.heap.size = g5 at *
  have c0 : w0.cell? ⟨g5, 0, none⟩ = some (.int .u8 x) := by simp [World.cell?, hb5]
  have c1 : w0.cell? ⟨g5, 1, none⟩ = some (.int .u8 y) := by simp [World.cell?, hb5]
  have l5 := cell_lt c0
  have C0 := Lib.hid c0
  have C1 := Lib.hid c1
  have Hw0 := Lib.hid hw0
  clear hb5 c0 c1 hw0
  go_cut [7, 8] (fun s7 s8 wx => ∃ g7 g8 : Nat, s7 = .pointer (some ⟨g7, 0, none⟩) ∧ s8 = .pointer (some ⟨g8, 0, none⟩) ∧ wx.cell? ⟨g7, 0, none⟩ = some (.int .u32 ip) ∧ wx.cell? ⟨g7, 1, none⟩ = some (.int .i64 m) ∧ wx.cell? ⟨g8, 0, none⟩ = some (.int .u32 jp) ∧ wx.cell? ⟨g8, 1, none⟩ = some (.int .i64 n) ∧ NoW w wx)
  case first =>
    refine wp_region_held_drew (S := fun wx => NoW w0 wx) (by kernel_rfl) (Fp.drew (Fp.refl _ _)) (fun hHeld => ?_)
    (refine take_at 0 (some 13) rfl rfl (by kernel_rfl) (by kernel_rfl) (by kernel_rfl) (fun _ _ _ h => h) (v := ?_) (by kernel_rfl) ?_ (by assumption) ?_; rotate_left; (focus (intro wS hSw; skip; go_simp; try with_reducible rfl)); (try simp only [Act.put, List.setIfInBounds_toArray, List.set_cons_zero, List.set_cons_succ]))
    (refine take_at 1 (some 14) rfl rfl (by kernel_rfl) (by kernel_rfl) (by kernel_rfl) (fun _ _ _ h => h) (v := ?_) (by kernel_rfl) ?_ (by assumption) ?_; rotate_left; (focus (intro wS hSw; skip; go_simp; try with_reducible rfl)); (try simp only [Act.put, List.setIfInBounds_toArray, List.set_cons_zero, List.set_cons_succ]))
    (refine take_at 2 (some 15) rfl rfl (by kernel_rfl) (by kernel_rfl) (by kernel_rfl) (fun _ _ _ h => h) (v := ?_) (by kernel_rfl) ?_ (by assumption) ?_; rotate_left; (focus (intro wS hSw; have d0 := (hSw.cell (p := ⟨g5, 0, none⟩) l5 id).trans C0.out; have d1 := (hSw.cell (p := ⟨g5, 1, none⟩) l5 id).trans C1.out; go_simp; try with_reducible rfl)); (try simp only [Act.put, List.setIfInBounds_toArray, List.set_cons_zero, List.set_cons_succ]))
    (refine take_at 3 (some 16) rfl rfl (by kernel_rfl) (by kernel_rfl) (by kernel_rfl) (fun _ _ _ h => h) (v := ?_) (by kernel_rfl) ?_ (by assumption) ?_; rotate_left; (focus (intro wS hSw; skip; go_simp; try with_reducible rfl)); (try simp only [Act.put, List.setIfInBounds_toArray, List.set_cons_zero, List.set_cons_succ]))
    (refine take_at 4 (some 17) rfl rfl (by kernel_rfl) (by kernel_rfl) (by kernel_rfl) (fun _ _ _ h => h) (v := ?_) (by kernel_rfl) ?_ (by assumption) ?_; rotate_left; (focus (intro wS hSw; skip; go_simp; try with_reducible rfl)); (try simp only [Act.put, List.setIfInBounds_toArray, List.set_cons_zero, List.set_cons_succ]))
    (refine take_at 5 (some 18) rfl rfl (by kernel_rfl) (by kernel_rfl) (by kernel_rfl) (fun _ _ _ h => h) (v := ?_) (by kernel_rfl) ?_ (by assumption) ?_; rotate_left; (focus (intro wS hSw; have d0 := (hSw.cell (p := ⟨g5, 0, none⟩) l5 id).trans C0.out; have d1 := (hSw.cell (p := ⟨g5, 1, none⟩) l5 id).trans C1.out; go_simp; try with_reducible rfl)); (try simp only [Act.put, List.setIfInBounds_toArray, List.set_cons_zero, List.set_cons_succ]))
    (refine take_at 6 (some 19) rfl rfl (by kernel_rfl) (by kernel_rfl) (by kernel_rfl) (fun _ _ _ h => h) (v := ?_) (by kernel_rfl) ?_ (by assumption) ?_; rotate_left; (focus (intro wS hSw; skip; go_simp; try with_reducible rfl)); (try simp only [Act.put, List.setIfInBounds_toArray, List.set_cons_zero, List.set_cons_succ]))
    (refine take_at 7 (some 20) rfl rfl (by kernel_rfl) (by kernel_rfl) (by kernel_rfl) (fun _ _ _ h => h) (v := ?_) (by kernel_rfl) ?_ (by assumption) ?_; rotate_left; (focus (intro wS hSw; skip; go_simp; try with_reducible rfl)); (try simp only [Act.put, List.setIfInBounds_toArray, List.set_cons_zero, List.set_cons_succ]))
    (refine take_at 9 (some 22) rfl rfl (by kernel_rfl) (by kernel_rfl) (by kernel_rfl) (fun _ _ _ h => h) (v := ?_) (by kernel_rfl) ?_ (by assumption) ?_; rotate_left; (focus (intro wS hSw; skip; go_simp; try with_reducible rfl)); (try simp only [Act.put, List.setIfInBounds_toArray, List.set_cons_zero, List.set_cons_succ]))
    (refine take_at 10 (some 23) rfl rfl (by kernel_rfl) (by kernel_rfl) (by kernel_rfl) (fun _ _ _ h => h) (v := ?_) (by kernel_rfl) ?_ (by assumption) ?_; rotate_left; (focus (intro wS hSw; skip; go_simp; try with_reducible rfl)); (try simp only [Act.put, List.setIfInBounds_toArray, List.set_cons_zero, List.set_cons_succ]))
    (refine take_at 11 (some 24) rfl rfl (by kernel_rfl) (by kernel_rfl) (by kernel_rfl) (fun _ _ _ h => h) (v := ?_) (by kernel_rfl) ?_ (by assumption) ?_; rotate_left; (focus (intro wS hSw; have d0 := (hSw.cell (p := ⟨g5, 0, none⟩) l5 id).trans C0.out; have d1 := (hSw.cell (p := ⟨g5, 1, none⟩) l5 id).trans C1.out; go_simp; try with_reducible rfl)); (try simp only [Act.put, List.setIfInBounds_toArray, List.set_cons_zero, List.set_cons_succ]))
    (refine take_at 12 (some 25) rfl rfl (by kernel_rfl) (by kernel_rfl) (by kernel_rfl) (fun _ _ _ h => h) (v := ?_) (by kernel_rfl) ?_ (by assumption) ?_; rotate_left; (focus (intro wS hSw; skip; go_simp; try with_reducible rfl)); (try simp only [Act.put, List.setIfInBounds_toArray, List.set_cons_zero, List.set_cons_succ]))
    (refine take_at 13 (some 26) rfl rfl (by kernel_rfl) (by kernel_rfl) (by kernel_rfl) (fun _ _ _ h => h) (v := ?_) (by kernel_rfl) ?_ (by assumption) ?_; rotate_left; (focus (intro wS hSw; skip; go_simp; try with_reducible rfl)); (try simp only [Act.put, List.setIfInBounds_toArray, List.set_cons_zero, List.set_cons_succ]))
    (refine take_at 14 (some 27) rfl rfl (by kernel_rfl) (by kernel_rfl) (by kernel_rfl) (fun _ _ _ h => h) (v := ?_) (by kernel_rfl) ?_ (by assumption) ?_; rotate_left; (focus (intro wS hSw; have d0 := (hSw.cell (p := ⟨g5, 0, none⟩) l5 id).trans C0.out; have d1 := (hSw.cell (p := ⟨g5, 1, none⟩) l5 id).trans C1.out; go_simp; try with_reducible rfl)); (try simp only [Act.put, List.setIfInBounds_toArray, List.set_cons_zero, List.set_cons_succ]))
    (refine take_at 15 (some 28) rfl rfl (by kernel_rfl) (by kernel_rfl) (by kernel_rfl) (fun _ _ _ h => h) (v := ?_) (by kernel_rfl) ?_ (by assumption) ?_; rotate_left; (focus (intro wS hSw; skip; go_simp; try with_reducible rfl)); (try simp only [Act.put, List.setIfInBounds_toArray, List.set_cons_zero, List.set_cons_succ]))
    (refine take_at 16 (some 29) rfl rfl (by kernel_rfl) (by kernel_rfl) (by kernel_rfl) (fun _ _ _ h => h) (v := ?_) (by kernel_rfl) ?_ (by assumption) ?_; rotate_left; (focus (intro wS hSw; skip; go_simp; try with_reducible rfl)); (try simp only [Act.put, List.setIfInBounds_toArray, List.set_cons_zero, List.set_cons_succ]))
    refine wpAnyH_ready (rs := [8, 18, 19]) (by kernel_rfl) (by simp) ?_
    refine AllReadyH.cons rfl (fun K hK => ?_) (AllReadyH.cons rfl (fun K hK => ?_) (AllReadyH.cons rfl (fun K hK => ?_) AllReadyH.nil))
    · go_simp
      go_at_call 15
      refine (K0.out _).mono ?_
      rintro e u1 ⟨rfl, hp⟩
      have hn : NoW w0 u1 := Fp.trans hHeld hp (fun _ _ h => h)
      clear hp hHeld
      refine hK.out _ _ hn (fun hHeld => ?_)
      clear hK K hn
      try simp only [Act.put, List.setIfInBounds_toArray, List.set_cons_zero, List.set_cons_succ]
      refine wpAnyH_ready (rs := [17, 18, 19]) (by kernel_rfl) (by simp) ?_
      refine AllReadyH.cons rfl (fun K hK => ?_) (AllReadyH.cons rfl (fun K hK => ?_) (AllReadyH.cons rfl (fun K hK => ?_) AllReadyH.nil))
      · go_simp
        go_at_call 15
        refine (K1.out _).mono ?_
        rintro e u2 ⟨rfl, hp⟩
        have hn : NoW w0 u2 := Fp.trans hHeld hp (fun _ _ h => h)
        clear hp hHeld
        refine hK.out _ _ hn (fun hHeld => ?_)
        clear hK K hn
        try simp only [Act.put, List.setIfInBounds_toArray, List.set_cons_zero, List.set_cons_succ]
        refine wpAnyH_ready (rs := [18, 19]) (by kernel_rfl) (by simp) ?_
        refine AllReadyH.cons rfl (fun K hK => ?_) (AllReadyH.cons rfl (fun K hK => ?_) AllReadyH.nil)
        · go_simp
          refine hK.out _ _ (hHeld.alloc _) (fun hHeld2 => ?_)
          clear hK K
          have hb : (u2.alloc (.cells #[.int .u32 0, .int .i64 0] 29)).heap[u2.heap.size]? = _ := heap_alloc_new u2 (.cells #[.int .u32 0, .int .i64 0] 29)
          have B7 := Lib.hid hb
          have hge7 : w0.heap.size ≤ u2.heap.size := hHeld.size
          clear hb hHeld
          have hHeld := hHeld2
          clear hHeld2
          generalize (u2.alloc (.cells #[.int .u32 0, .int .i64 0] 29)) = z3 at *
          try simp only [Act.put, List.setIfInBounds_toArray, List.set_cons_zero, List.set_cons_succ]
          refine wpAnyH_ready (rs := [19]) (by kernel_rfl) (by simp) ?_
          refine AllReadyH.cons rfl (fun K hK => ?_) AllReadyH.nil
          · go_simp
            refine hK.out _ _ (hHeld.alloc _) (fun hHeld2 => ?_)
            clear hK K
            have hb : (z3.alloc (.cells #[.int .u32 0, .int .i64 0] 29)).heap[u2.heap.size]? = _ := (((Fp.refl (fun _ => False) z3).alloc (.cells #[.int .u32 0, .int .i64 0] 29)).block _ (Array.getElem?_eq_some_iff.1 B7.out).1 id).trans B7.out
            have hlt : u2.heap.size < z3.heap.size := (Array.getElem?_eq_some_iff.1 B7.out).1
            clear B7
            have B7 := Lib.hid hb
            clear hb
            have hb : (z3.alloc (.cells #[.int .u32 0, .int .i64 0] 29)).heap[z3.heap.size]? = _ := heap_alloc_new z3 (.cells #[.int .u32 0, .int .i64 0] 29)
            have B8 := Lib.hid hb
            have hge8 : w0.heap.size ≤ z3.heap.size := hHeld.size
            clear hb hHeld
            have hHeld := hHeld2
            clear hHeld2
            generalize (z3.alloc (.cells #[.int .u32 0, .int .i64 0] 29)) = z4 at *
            try simp only [Act.put, List.setIfInBounds_toArray, List.set_cons_zero, List.set_cons_succ]
            have c70 : z4.cell? ⟨u2.heap.size, 0, none⟩ = some (.int .u32 0) := by simp [World.cell?, B7.out]
            have z70 : z4.frozen? ⟨u2.heap.size, 0, none⟩ = false := by simp [World.frozen?, B7.out]
            have c71 : z4.cell? ⟨u2.heap.size, 1, none⟩ = some (.int .i64 0) := by simp [World.cell?, B7.out]
            have z71 : z4.frozen? ⟨u2.heap.size, 1, none⟩ = false := by simp [World.frozen?, B7.out]
            have c80 : z4.cell? ⟨z3.heap.size, 0, none⟩ = some (.int .u32 0) := by simp [World.cell?, B8.out]
            have z80 : z4.frozen? ⟨z3.heap.size, 0, none⟩ = false := by simp [World.frozen?, B8.out]
            have c81 : z4.cell? ⟨z3.heap.size, 1, none⟩ = some (.int .i64 0) := by simp [World.cell?, B8.out]
            have z81 : z4.frozen? ⟨z3.heap.size, 1, none⟩ = false := by simp [World.frozen?, B8.out]
            have hne1 : ¬ u2.heap.size = z3.heap.size := by omega
            have hne2 : ¬ z3.heap.size = u2.heap.size := by omega
            clear B7 B8
            generalize u2.heap.size = g7 at *
            generalize z3.heap.size = g8 at *
            refine wpAnyH_ready (rs := [20]) (by kernel_rfl) (by simp) ?_
            refine AllReadyH.cons rfl (fun K hK => ?_) AllReadyH.nil
            go_simp
            refine hK.out _ _ (by (repeat (first | exact hHeld | exact hHeld3 | (refine Fp.setCell ?_ (Or.inl (by first | assumption | omega)) _)))) (fun hHeld3 => ?_)
            clear hK K
            try simp only [Act.put, List.setIfInBounds_toArray, List.set_cons_zero, List.set_cons_succ]
            refine wpAnyH_ready (rs := [21]) (by kernel_rfl) (by simp) ?_
            refine AllReadyH.cons rfl (fun K hK => ?_) AllReadyH.nil
            go_simp
            refine hK.out _ _ (by (repeat (first | exact hHeld | exact hHeld3 | (refine Fp.setCell ?_ (Or.inl (by first | assumption | omega)) _)))) (fun hHeld3 => ?_)
            clear hK K
            try simp only [Act.put, List.setIfInBounds_toArray, List.set_cons_zero, List.set_cons_succ]
            refine wpAnyH_done (by kernel_rfl) ?_ _
            go_wp2_with fail
            go_meet
            refine ⟨g7, g8, rfl, rfl, ?_, ?_, ?_, ?_, Hw0.out.trans hHeld3 (fun _ _ h => h)⟩ <;> go_simp
        · go_simp
          refine hK.out _ _ (hHeld.alloc _) (fun hHeld2 => ?_)
          clear hK K
          have hb : (u2.alloc (.cells #[.int .u32 0, .int .i64 0] 29)).heap[u2.heap.size]? = _ := heap_alloc_new u2 (.cells #[.int .u32 0, .int .i64 0] 29)
          have B8 := Lib.hid hb
          have hge8 : w0.heap.size ≤ u2.heap.size := hHeld.size
          clear hb hHeld
          have hHeld := hHeld2
          clear hHeld2
          generalize (u2.alloc (.cells #[.int .u32 0, .int .i64 0] 29)) = z5 at *
          try simp only [Act.put, List.setIfInBounds_toArray, List.set_cons_zero, List.set_cons_succ]
          refine wpAnyH_ready (rs := [18]) (by kernel_rfl) (by simp) ?_
          refine AllReadyH.cons rfl (fun K hK => ?_) AllReadyH.nil
          · go_simp
            refine hK.out _ _ (hHeld.alloc _) (fun hHeld2 => ?_)
            clear hK K
            have hb : (z5.alloc (.cells #[.int .u32 0, .int .i64 0] 29)).heap[u2.heap.size]? = _ := (((Fp.refl (fun _ => False) z5).alloc (.cells #[.int .u32 0, .int .i64 0] 29)).block _ (Array.getElem?_eq_some_iff.1 B8.out).1 id).trans B8.out
            have hlt : u2.heap.size < z5.heap.size := (Array.getElem?_eq_some_iff.1 B8.out).1
            clear B8
            have B8 := Lib.hid hb
            clear hb
            have hb : (z5.alloc (.cells #[.int .u32 0, .int .i64 0] 29)).heap[z5.heap.size]? = _ := heap_alloc_new z5 (.cells #[.int .u32 0, .int .i64 0] 29)
            have B7 := Lib.hid hb
            have hge7 : w0.heap.size ≤ z5.heap.size := hHeld.size
            clear hb hHeld
            have hHeld := hHeld2
            clear hHeld2
            generalize (z5.alloc (.cells #[.int .u32 0, .int .i64 0] 29)) = z6 at *
            try simp only [Act.put, List.setIfInBounds_toArray, List.set_cons_zero, List.set_cons_succ]
            have c70 : z6.cell? ⟨z5.heap.size, 0, none⟩ = some (.int .u32 0) := by simp [World.cell?, B7.out]
            have z70 : z6.frozen? ⟨z5.heap.size, 0, none⟩ = false := by simp [World.frozen?, B7.out]
            have c71 : z6.cell? ⟨z5.heap.size, 1, none⟩ = some (.int .i64 0) := by simp [World.cell?, B7.out]
            have z71 : z6.frozen? ⟨z5.heap.size, 1, none⟩ = false := by simp [World.frozen?, B7.out]
            have c80 : z6.cell? ⟨u2.heap.size, 0, none⟩ = some (.int .u32 0) := by simp [World.cell?, B8.out]
            have z80 : z6.frozen? ⟨u2.heap.size, 0, none⟩ = false := by simp [World.frozen?, B8.out]
            have c81 : z6.cell? ⟨u2.heap.size, 1, none⟩ = some (.int .i64 0) := by simp [World.cell?, B8.out]
            have z81 : z6.frozen? ⟨u2.heap.size, 1, none⟩ = false := by simp [World.frozen?, B8.out]
            have hne1 : ¬ z5.heap.size = u2.heap.size := by omega
            have hne2 : ¬ u2.heap.size = z5.heap.size := by omega
            clear B7 B8
            generalize z5.heap.size = g7 at *
            generalize u2.heap.size = g8 at *
            refine wpAnyH_ready (rs := [20]) (by kernel_rfl) (by simp) ?_
            refine AllReadyH.cons rfl (fun K hK => ?_) AllReadyH.nil
            go_simp
            refine hK.out _ _ (by (repeat (first | exact hHeld | exact hHeld3 | (refine Fp.setCell ?_ (Or.inl (by first | assumption | omega)) _)))) (fun hHeld3 => ?_)
            clear hK K
            try simp only [Act.put, List.setIfInBounds_toArray, List.set_cons_zero, List.set_cons_succ]
            refine wpAnyH_ready (rs := [21]) (by kernel_rfl) (by simp) ?_
            refine AllReadyH.cons rfl (fun K hK => ?_) AllReadyH.nil
            go_simp
            refine hK.out _ _ (by (repeat (first | exact hHeld | exact hHeld3 | (refine Fp.setCell ?_ (Or.inl (by first | assumption | omega)) _)))) (fun hHeld3 => ?_)
            clear hK K
            try simp only [Act.put, List.setIfInBounds_toArray, List.set_cons_zero, List.set_cons_succ]
            refine wpAnyH_done (by kernel_rfl) ?_ _
            go_wp2_with fail
            go_meet
            refine ⟨g7, g8, rfl, rfl, ?_, ?_, ?_, ?_, Hw0.out.trans hHeld3 (fun _ _ h => h)⟩ <;> go_simp
      · go_simp
        refine hK.out _ _ (hHeld.alloc _) (fun hHeld2 => ?_)
        clear hK K
        have hb : (u1.alloc (.cells #[.int .u32 0, .int .i64 0] 29)).heap[u1.heap.size]? = _ := heap_alloc_new u1 (.cells #[.int .u32 0, .int .i64 0] 29)
        have B7 := Lib.hid hb
        have hge7 : w0.heap.size ≤ u1.heap.size := hHeld.size
        clear hb hHeld
        have hHeld := hHeld2
        clear hHeld2
        generalize (u1.alloc (.cells #[.int .u32 0, .int .i64 0] 29)) = z7 at *
        try simp only [Act.put, List.setIfInBounds_toArray, List.set_cons_zero, List.set_cons_succ]
        refine wpAnyH_ready (rs := [17, 19]) (by kernel_rfl) (by simp) ?_
        refine AllReadyH.cons rfl (fun K hK => ?_) (AllReadyH.cons rfl (fun K hK => ?_) AllReadyH.nil)
        · go_simp
          go_at_call 15
          refine (K1.out _).mono ?_
          rintro e u8 ⟨rfl, hp⟩
          have hn : NoW w0 u8 := Fp.trans hHeld hp (fun _ _ h => h)
          have hb := (hp.block _ (Array.getElem?_eq_some_iff.1 B7.out).1 id).trans B7.out
          clear B7
          have B7 := Lib.hid hb
          clear hb
          clear hp hHeld
          refine hK.out _ _ hn (fun hHeld => ?_)
          clear hK K hn
          try simp only [Act.put, List.setIfInBounds_toArray, List.set_cons_zero, List.set_cons_succ]
          refine wpAnyH_ready (rs := [19]) (by kernel_rfl) (by simp) ?_
          refine AllReadyH.cons rfl (fun K hK => ?_) AllReadyH.nil
          · go_simp
            refine hK.out _ _ (hHeld.alloc _) (fun hHeld2 => ?_)
            clear hK K
            have hb : (u8.alloc (.cells #[.int .u32 0, .int .i64 0] 29)).heap[u1.heap.size]? = _ := (((Fp.refl (fun _ => False) u8).alloc (.cells #[.int .u32 0, .int .i64 0] 29)).block _ (Array.getElem?_eq_some_iff.1 B7.out).1 id).trans B7.out
            have hlt : u1.heap.size < u8.heap.size := (Array.getElem?_eq_some_iff.1 B7.out).1
            clear B7
            have B7 := Lib.hid hb
            clear hb
            have hb : (u8.alloc (.cells #[.int .u32 0, .int .i64 0] 29)).heap[u8.heap.size]? = _ := heap_alloc_new u8 (.cells #[.int .u32 0, .int .i64 0] 29)
            have B8 := Lib.hid hb
            have hge8 : w0.heap.size ≤ u8.heap.size := hHeld.size
            clear hb hHeld
            have hHeld := hHeld2
            clear hHeld2
            generalize (u8.alloc (.cells #[.int .u32 0, .int .i64 0] 29)) = z9 at *
            try simp only [Act.put, List.setIfInBounds_toArray, List.set_cons_zero, List.set_cons_succ]
            have c70 : z9.cell? ⟨u1.heap.size, 0, none⟩ = some (.int .u32 0) := by simp [World.cell?, B7.out]
            have z70 : z9.frozen? ⟨u1.heap.size, 0, none⟩ = false := by simp [World.frozen?, B7.out]
            have c71 : z9.cell? ⟨u1.heap.size, 1, none⟩ = some (.int .i64 0) := by simp [World.cell?, B7.out]
            have z71 : z9.frozen? ⟨u1.heap.size, 1, none⟩ = false := by simp [World.frozen?, B7.out]
            have c80 : z9.cell? ⟨u8.heap.size, 0, none⟩ = some (.int .u32 0) := by simp [World.cell?, B8.out]
            have z80 : z9.frozen? ⟨u8.heap.size, 0, none⟩ = false := by simp [World.frozen?, B8.out]
            have c81 : z9.cell? ⟨u8.heap.size, 1, none⟩ = some (.int .i64 0) := by simp [World.cell?, B8.out]
            have z81 : z9.frozen? ⟨u8.heap.size, 1, none⟩ = false := by simp [World.frozen?, B8.out]
            have hne1 : ¬ u1.heap.size = u8.heap.size := by omega
            have hne2 : ¬ u8.heap.size = u1.heap.size := by omega
            clear B7 B8
            generalize u1.heap.size = g7 at *
            generalize u8.heap.size = g8 at *
            refine wpAnyH_ready (rs := [20]) (by kernel_rfl) (by simp) ?_
            refine AllReadyH.cons rfl (fun K hK => ?_) AllReadyH.nil
            go_simp
            refine hK.out _ _ (by (repeat (first | exact hHeld | exact hHeld3 | (refine Fp.setCell ?_ (Or.inl (by first | assumption | omega)) _)))) (fun hHeld3 => ?_)
            clear hK K
            try simp only [Act.put, List.setIfInBounds_toArray, List.set_cons_zero, List.set_cons_succ]
            refine wpAnyH_ready (rs := [21]) (by kernel_rfl) (by simp) ?_
            refine AllReadyH.cons rfl (fun K hK => ?_) AllReadyH.nil
            go_simp
            refine hK.out _ _ (by (repeat (first | exact hHeld | exact hHeld3 | (refine Fp.setCell ?_ (Or.inl (by first | assumption | omega)) _)))) (fun hHeld3 => ?_)
            clear hK K
            try simp only [Act.put, List.setIfInBounds_toArray, List.set_cons_zero, List.set_cons_succ]
            refine wpAnyH_done (by kernel_rfl) ?_ _
            go_wp2_with fail
            go_meet
            refine ⟨g7, g8, rfl, rfl, ?_, ?_, ?_, ?_, Hw0.out.trans hHeld3 (fun _ _ h => h)⟩ <;> go_simp
        · go_simp
          refine hK.out _ _ (hHeld.alloc _) (fun hHeld2 => ?_)
          clear hK K
          have hb : (z7.alloc (.cells #[.int .u32 0, .int .i64 0] 29)).heap[u1.heap.size]? = _ := (((Fp.refl (fun _ => False) z7).alloc (.cells #[.int .u32 0, .int .i64 0] 29)).block _ (Array.getElem?_eq_some_iff.1 B7.out).1 id).trans B7.out
          have hlt : u1.heap.size < z7.heap.size := (Array.getElem?_eq_some_iff.1 B7.out).1
          clear B7
          have B7 := Lib.hid hb
          clear hb
          have hb : (z7.alloc (.cells #[.int .u32 0, .int .i64 0] 29)).heap[z7.heap.size]? = _ := heap_alloc_new z7 (.cells #[.int .u32 0, .int .i64 0] 29)
          have B8 := Lib.hid hb
          have hge8 : w0.heap.size ≤ z7.heap.size := hHeld.size
          clear hb hHeld
          have hHeld := hHeld2
          clear hHeld2
          generalize (z7.alloc (.cells #[.int .u32 0, .int .i64 0] 29)) = z10 at *
          try simp only [Act.put, List.setIfInBounds_toArray, List.set_cons_zero, List.set_cons_succ]
          refine wpAnyH_ready (rs := [17]) (by kernel_rfl) (by simp) ?_
          refine AllReadyH.cons rfl (fun K hK => ?_) AllReadyH.nil
          · go_simp
            go_at_call 15
            refine (K1.out _).mono ?_
            rintro e u11 ⟨rfl, hp⟩
            have hn : NoW w0 u11 := Fp.trans hHeld hp (fun _ _ h => h)
            have hb := (hp.block _ (Array.getElem?_eq_some_iff.1 B7.out).1 id).trans B7.out
            clear B7
            have B7 := Lib.hid hb
            clear hb
            have hb := (hp.block _ (Array.getElem?_eq_some_iff.1 B8.out).1 id).trans B8.out
            clear B8
            have B8 := Lib.hid hb
            clear hb
            clear hp hHeld
            refine hK.out _ _ hn (fun hHeld => ?_)
            clear hK K hn
            try simp only [Act.put, List.setIfInBounds_toArray, List.set_cons_zero, List.set_cons_succ]
            have c70 : u11.cell? ⟨u1.heap.size, 0, none⟩ = some (.int .u32 0) := by simp [World.cell?, B7.out]
            have z70 : u11.frozen? ⟨u1.heap.size, 0, none⟩ = false := by simp [World.frozen?, B7.out]
            have c71 : u11.cell? ⟨u1.heap.size, 1, none⟩ = some (.int .i64 0) := by simp [World.cell?, B7.out]
            have z71 : u11.frozen? ⟨u1.heap.size, 1, none⟩ = false := by simp [World.frozen?, B7.out]
            have c80 : u11.cell? ⟨z7.heap.size, 0, none⟩ = some (.int .u32 0) := by simp [World.cell?, B8.out]
            have z80 : u11.frozen? ⟨z7.heap.size, 0, none⟩ = false := by simp [World.frozen?, B8.out]
            have c81 : u11.cell? ⟨z7.heap.size, 1, none⟩ = some (.int .i64 0) := by simp [World.cell?, B8.out]
            have z81 : u11.frozen? ⟨z7.heap.size, 1, none⟩ = false := by simp [World.frozen?, B8.out]
            have hne1 : ¬ u1.heap.size = z7.heap.size := by omega
            have hne2 : ¬ z7.heap.size = u1.heap.size := by omega
            clear B7 B8
            generalize u1.heap.size = g7 at *
            generalize z7.heap.size = g8 at *
            refine wpAnyH_ready (rs := [20]) (by kernel_rfl) (by simp) ?_
            refine AllReadyH.cons rfl (fun K hK => ?_) AllReadyH.nil
            go_simp
            refine hK.out _ _ (by (repeat (first | exact hHeld | exact hHeld3 | (refine Fp.setCell ?_ (Or.inl (by first | assumption | omega)) _)))) (fun hHeld3 => ?_)
            clear hK K
            try simp only [Act.put, List.setIfInBounds_toArray, List.set_cons_zero, List.set_cons_succ]
            refine wpAnyH_ready (rs := [21]) (by kernel_rfl) (by simp) ?_
            refine AllReadyH.cons rfl (fun K hK => ?_) AllReadyH.nil
            go_simp
            refine hK.out _ _ (by (repeat (first | exact hHeld | exact hHeld3 | (refine Fp.setCell ?_ (Or.inl (by first | assumption | omega)) _)))) (fun hHeld3 => ?_)
            clear hK K
            try simp only [Act.put, List.setIfInBounds_toArray, List.set_cons_zero, List.set_cons_succ]
            refine wpAnyH_done (by kernel_rfl) ?_ _
            go_wp2_with fail
            go_meet
            refine ⟨g7, g8, rfl, rfl, ?_, ?_, ?_, ?_, Hw0.out.trans hHeld3 (fun _ _ h => h)⟩ <;> go_simp
      · go_simp
        refine hK.out _ _ (hHeld.alloc _) (fun hHeld2 => ?_)
        clear hK K
        have hb : (u1.alloc (.cells #[.int .u32 0, .int .i64 0] 29)).heap[u1.heap.size]? = _ := heap_alloc_new u1 (.cells #[.int .u32 0, .int .i64 0] 29)
        have B8 := Lib.hid hb
        have hge8 : w0.heap.size ≤ u1.heap.size := hHeld.size
        clear hb hHeld
        have hHeld := hHeld2
        clear hHeld2
        generalize (u1.alloc (.cells #[.int .u32 0, .int .i64 0] 29)) = z12 at *
        try simp only [Act.put, List.setIfInBounds_toArray, List.set_cons_zero, List.set_cons_succ]
        refine wpAnyH_ready (rs := [17, 18]) (by kernel_rfl) (by simp) ?_
        refine AllReadyH.cons rfl (fun K hK => ?_) (AllReadyH.cons rfl (fun K hK => ?_) AllReadyH.nil)
        · go_simp
          go_at_call 15
          refine (K1.out _).mono ?_
          rintro e u13 ⟨rfl, hp⟩
          have hn : NoW w0 u13 := Fp.trans hHeld hp (fun _ _ h => h)
          have hb := (hp.block _ (Array.getElem?_eq_some_iff.1 B8.out).1 id).trans B8.out
          clear B8
          have B8 := Lib.hid hb
          clear hb
          clear hp hHeld
          refine hK.out _ _ hn (fun hHeld => ?_)
          clear hK K hn
          try simp only [Act.put, List.setIfInBounds_toArray, List.set_cons_zero, List.set_cons_succ]
          refine wpAnyH_ready (rs := [18]) (by kernel_rfl) (by simp) ?_
          refine AllReadyH.cons rfl (fun K hK => ?_) AllReadyH.nil
          · go_simp
            refine hK.out _ _ (hHeld.alloc _) (fun hHeld2 => ?_)
            clear hK K
            have hb : (u13.alloc (.cells #[.int .u32 0, .int .i64 0] 29)).heap[u1.heap.size]? = _ := (((Fp.refl (fun _ => False) u13).alloc (.cells #[.int .u32 0, .int .i64 0] 29)).block _ (Array.getElem?_eq_some_iff.1 B8.out).1 id).trans B8.out
            have hlt : u1.heap.size < u13.heap.size := (Array.getElem?_eq_some_iff.1 B8.out).1
            clear B8
            have B8 := Lib.hid hb
            clear hb
            have hb : (u13.alloc (.cells #[.int .u32 0, .int .i64 0] 29)).heap[u13.heap.size]? = _ := heap_alloc_new u13 (.cells #[.int .u32 0, .int .i64 0] 29)
            have B7 := Lib.hid hb
            have hge7 : w0.heap.size ≤ u13.heap.size := hHeld.size
            clear hb hHeld
            have hHeld := hHeld2
            clear hHeld2
            generalize (u13.alloc (.cells #[.int .u32 0, .int .i64 0] 29)) = z14 at *
            try simp only [Act.put, List.setIfInBounds_toArray, List.set_cons_zero, List.set_cons_succ]
            have c70 : z14.cell? ⟨u13.heap.size, 0, none⟩ = some (.int .u32 0) := by simp [World.cell?, B7.out]
            have z70 : z14.frozen? ⟨u13.heap.size, 0, none⟩ = false := by simp [World.frozen?, B7.out]
            have c71 : z14.cell? ⟨u13.heap.size, 1, none⟩ = some (.int .i64 0) := by simp [World.cell?, B7.out]
            have z71 : z14.frozen? ⟨u13.heap.size, 1, none⟩ = false := by simp [World.frozen?, B7.out]
            have c80 : z14.cell? ⟨u1.heap.size, 0, none⟩ = some (.int .u32 0) := by simp [World.cell?, B8.out]
            have z80 : z14.frozen? ⟨u1.heap.size, 0, none⟩ = false := by simp [World.frozen?, B8.out]
            have c81 : z14.cell? ⟨u1.heap.size, 1, none⟩ = some (.int .i64 0) := by simp [World.cell?, B8.out]
            have z81 : z14.frozen? ⟨u1.heap.size, 1, none⟩ = false := by simp [World.frozen?, B8.out]
            have hne1 : ¬ u13.heap.size = u1.heap.size := by omega
            have hne2 : ¬ u1.heap.size = u13.heap.size := by omega
            clear B7 B8
            generalize u13.heap.size = g7 at *
            generalize u1.heap.size = g8 at *
            refine wpAnyH_ready (rs := [20]) (by kernel_rfl) (by simp) ?_
            refine AllReadyH.cons rfl (fun K hK => ?_) AllReadyH.nil
            go_simp
            refine hK.out _ _ (by (repeat (first | exact hHeld | exact hHeld3 | (refine Fp.setCell ?_ (Or.inl (by first | assumption | omega)) _)))) (fun hHeld3 => ?_)
            clear hK K
            try simp only [Act.put, List.setIfInBounds_toArray, List.set_cons_zero, List.set_cons_succ]
            refine wpAnyH_ready (rs := [21]) (by kernel_rfl) (by simp) ?_
            refine AllReadyH.cons rfl (fun K hK => ?_) AllReadyH.nil
            go_simp
            refine hK.out _ _ (by (repeat (first | exact hHeld | exact hHeld3 | (refine Fp.setCell ?_ (Or.inl (by first | assumption | omega)) _)))) (fun hHeld3 => ?_)
            clear hK K
            try simp only [Act.put, List.setIfInBounds_toArray, List.set_cons_zero, List.set_cons_succ]
            refine wpAnyH_done (by kernel_rfl) ?_ _
            go_wp2_with fail
            go_meet
            refine ⟨g7, g8, rfl, rfl, ?_, ?_, ?_, ?_, Hw0.out.trans hHeld3 (fun _ _ h => h)⟩ <;> go_simp
        · go_simp
          refine hK.out _ _ (hHeld.alloc _) (fun hHeld2 => ?_)
          clear hK K
          have hb : (z12.alloc (.cells #[.int .u32 0, .int .i64 0] 29)).heap[u1.heap.size]? = _ := (((Fp.refl (fun _ => False) z12).alloc (.cells #[.int .u32 0, .int .i64 0] 29)).block _ (Array.getElem?_eq_some_iff.1 B8.out).1 id).trans B8.out
          have hlt : u1.heap.size < z12.heap.size := (Array.getElem?_eq_some_iff.1 B8.out).1
          clear B8
          have B8 := Lib.hid hb
          clear hb
          have hb : (z12.alloc (.cells #[.int .u32 0, .int .i64 0] 29)).heap[z12.heap.size]? = _ := heap_alloc_new z12 (.cells #[.int .u32 0, .int .i64 0] 29)
          have B7 := Lib.hid hb
          have hge7 : w0.heap.size ≤ z12.heap.size := hHeld.size
          clear hb hHeld
          have hHeld := hHeld2
          clear hHeld2
          generalize (z12.alloc (.cells #[.int .u32 0, .int .i64 0] 29)) = z15 at *
          try simp only [Act.put, List.setIfInBounds_toArray, List.set_cons_zero, List.set_cons_succ]
          refine wpAnyH_ready (rs := [17]) (by kernel_rfl) (by simp) ?_
          refine AllReadyH.cons rfl (fun K hK => ?_) AllReadyH.nil
          · go_simp
            go_at_call 15
            refine (K1.out _).mono ?_
            rintro e u16 ⟨rfl, hp⟩
            have hn : NoW w0 u16 := Fp.trans hHeld hp (fun _ _ h => h)
            have hb := (hp.block _ (Array.getElem?_eq_some_iff.1 B8.out).1 id).trans B8.out
            clear B8
            have B8 := Lib.hid hb
            clear hb
            have hb := (hp.block _ (Array.getElem?_eq_some_iff.1 B7.out).1 id).trans B7.out
            clear B7
            have B7 := Lib.hid hb
            clear hb
            clear hp hHeld
            refine hK.out _ _ hn (fun hHeld => ?_)
            clear hK K hn
            try simp only [Act.put, List.setIfInBounds_toArray, List.set_cons_zero, List.set_cons_succ]
            have c70 : u16.cell? ⟨z12.heap.size, 0, none⟩ = some (.int .u32 0) := by simp [World.cell?, B7.out]
            have z70 : u16.frozen? ⟨z12.heap.size, 0, none⟩ = false := by simp [World.frozen?, B7.out]
            have c71 : u16.cell? ⟨z12.heap.size, 1, none⟩ = some (.int .i64 0) := by simp [World.cell?, B7.out]
            have z71 : u16.frozen? ⟨z12.heap.size, 1, none⟩ = false := by simp [World.frozen?, B7.out]
            have c80 : u16.cell? ⟨u1.heap.size, 0, none⟩ = some (.int .u32 0) := by simp [World.cell?, B8.out]
            have z80 : u16.frozen? ⟨u1.heap.size, 0, none⟩ = false := by simp [World.frozen?, B8.out]
            have c81 : u16.cell? ⟨u1.heap.size, 1, none⟩ = some (.int .i64 0) := by simp [World.cell?, B8.out]
            have z81 : u16.frozen? ⟨u1.heap.size, 1, none⟩ = false := by simp [World.frozen?, B8.out]
            have hne1 : ¬ z12.heap.size = u1.heap.size := by omega
            have hne2 : ¬ u1.heap.size = z12.heap.size := by omega
            clear B7 B8
            generalize z12.heap.size = g7 at *
            generalize u1.heap.size = g8 at *
            refine wpAnyH_ready (rs := [20]) (by kernel_rfl) (by simp) ?_
            refine AllReadyH.cons rfl (fun K hK => ?_) AllReadyH.nil
            go_simp
            refine hK.out _ _ (by (repeat (first | exact hHeld | exact hHeld3 | (refine Fp.setCell ?_ (Or.inl (by first | assumption | omega)) _)))) (fun hHeld3 => ?_)
            clear hK K
            try simp only [Act.put, List.setIfInBounds_toArray, List.set_cons_zero, List.set_cons_succ]
            refine wpAnyH_ready (rs := [21]) (by kernel_rfl) (by simp) ?_
            refine AllReadyH.cons rfl (fun K hK => ?_) AllReadyH.nil
            go_simp
            refine hK.out _ _ (by (repeat (first | exact hHeld | exact hHeld3 | (refine Fp.setCell ?_ (Or.inl (by first | assumption | omega)) _)))) (fun hHeld3 => ?_)
            clear hK K
            try simp only [Act.put, List.setIfInBounds_toArray, List.set_cons_zero, List.set_cons_succ]
            refine wpAnyH_done (by kernel_rfl) ?_ _
            go_wp2_with fail
            go_meet
            refine ⟨g7, g8, rfl, rfl, ?_, ?_, ?_, ?_, Hw0.out.trans hHeld3 (fun _ _ h => h)⟩ <;> go_simp
    · go_simp
      refine hK.out _ _ (Fp.drew ((Fp.refl _ _).alloc _)) (fun hHeld2 => ?_)
      clear hK K
      have hb : (w0.alloc (.cells #[.int .u32 0, .int .i64 0] 29)).drew.heap[w0.heap.size]? = _ := heap_alloc_new w0 (.cells #[.int .u32 0, .int .i64 0] 29)
      have B7 := Lib.hid hb
      have hge7 : w0.heap.size ≤ w0.heap.size := hHeld.size
      clear hb hHeld
      have hHeld := hHeld2
      clear hHeld2
      generalize (w0.alloc (.cells #[.int .u32 0, .int .i64 0] 29)).drew = z17 at *
      try simp only [Act.put, List.setIfInBounds_toArray, List.set_cons_zero, List.set_cons_succ]
      refine wpAnyH_ready (rs := [8, 19]) (by kernel_rfl) (by simp) ?_
      refine AllReadyH.cons rfl (fun K hK => ?_) (AllReadyH.cons rfl (fun K hK => ?_) AllReadyH.nil)
      · go_simp
        go_at_call 15
        refine (K0.out _).mono ?_
        rintro e u18 ⟨rfl, hp⟩
        have hn : NoW w0 u18 := Fp.trans hHeld hp (fun _ _ h => h)
        have hb := (hp.block _ (Array.getElem?_eq_some_iff.1 B7.out).1 id).trans B7.out
        clear B7
        have B7 := Lib.hid hb
        clear hb
        clear hp hHeld
        refine hK.out _ _ hn (fun hHeld => ?_)
        clear hK K hn
        try simp only [Act.put, List.setIfInBounds_toArray, List.set_cons_zero, List.set_cons_succ]
        refine wpAnyH_ready (rs := [17, 19]) (by kernel_rfl) (by simp) ?_
        refine AllReadyH.cons rfl (fun K hK => ?_) (AllReadyH.cons rfl (fun K hK => ?_) AllReadyH.nil)
        · go_simp
          go_at_call 15
          refine (K1.out _).mono ?_
          rintro e u19 ⟨rfl, hp⟩
          have hn : NoW w0 u19 := Fp.trans hHeld hp (fun _ _ h => h)
          have hb := (hp.block _ (Array.getElem?_eq_some_iff.1 B7.out).1 id).trans B7.out
          clear B7
          have B7 := Lib.hid hb
          clear hb
          clear hp hHeld
          refine hK.out _ _ hn (fun hHeld => ?_)
          clear hK K hn
          try simp only [Act.put, List.setIfInBounds_toArray, List.set_cons_zero, List.set_cons_succ]
          refine wpAnyH_ready (rs := [19]) (by kernel_rfl) (by simp) ?_
          refine AllReadyH.cons rfl (fun K hK => ?_) AllReadyH.nil
          · go_simp
            refine hK.out _ _ (hHeld.alloc _) (fun hHeld2 => ?_)
            clear hK K
            have hb : (u19.alloc (.cells #[.int .u32 0, .int .i64 0] 29)).heap[w0.heap.size]? = _ := (((Fp.refl (fun _ => False) u19).alloc (.cells #[.int .u32 0, .int .i64 0] 29)).block _ (Array.getElem?_eq_some_iff.1 B7.out).1 id).trans B7.out
            have hlt : w0.heap.size < u19.heap.size := (Array.getElem?_eq_some_iff.1 B7.out).1
            clear B7
            have B7 := Lib.hid hb
            clear hb
            have hb : (u19.alloc (.cells #[.int .u32 0, .int .i64 0] 29)).heap[u19.heap.size]? = _ := heap_alloc_new u19 (.cells #[.int .u32 0, .int .i64 0] 29)
            have B8 := Lib.hid hb
            have hge8 : w0.heap.size ≤ u19.heap.size := hHeld.size
            clear hb hHeld
            have hHeld := hHeld2
            clear hHeld2
            generalize (u19.alloc (.cells #[.int .u32 0, .int .i64 0] 29)) = z20 at *
            try simp only [Act.put, List.setIfInBounds_toArray, List.set_cons_zero, List.set_cons_succ]
            have c70 : z20.cell? ⟨w0.heap.size, 0, none⟩ = some (.int .u32 0) := by simp [World.cell?, B7.out]
            have z70 : z20.frozen? ⟨w0.heap.size, 0, none⟩ = false := by simp [World.frozen?, B7.out]
            have c71 : z20.cell? ⟨w0.heap.size, 1, none⟩ = some (.int .i64 0) := by simp [World.cell?, B7.out]
            have z71 : z20.frozen? ⟨w0.heap.size, 1, none⟩ = false := by simp [World.frozen?, B7.out]
            have c80 : z20.cell? ⟨u19.heap.size, 0, none⟩ = some (.int .u32 0) := by simp [World.cell?, B8.out]
            have z80 : z20.frozen? ⟨u19.heap.size, 0, none⟩ = false := by simp [World.frozen?, B8.out]
            have c81 : z20.cell? ⟨u19.heap.size, 1, none⟩ = some (.int .i64 0) := by simp [World.cell?, B8.out]
            have z81 : z20.frozen? ⟨u19.heap.size, 1, none⟩ = false := by simp [World.frozen?, B8.out]
            have hne1 : ¬ w0.heap.size = u19.heap.size := by omega
            have hne2 : ¬ u19.heap.size = w0.heap.size := by omega
            clear B7 B8
            generalize u19.heap.size = g8 at *
            refine wpAnyH_ready (rs := [20]) (by kernel_rfl) (by simp) ?_
            refine AllReadyH.cons rfl (fun K hK => ?_) AllReadyH.nil
            go_simp
            refine hK.out _ _ (by (repeat (first | exact hHeld | exact hHeld3 | (refine Fp.setCell ?_ (Or.inl (by first | assumption | omega)) _)))) (fun hHeld3 => ?_)
            clear hK K
            try simp only [Act.put, List.setIfInBounds_toArray, List.set_cons_zero, List.set_cons_succ]
            refine wpAnyH_ready (rs := [21]) (by kernel_rfl) (by simp) ?_
            refine AllReadyH.cons rfl (fun K hK => ?_) AllReadyH.nil
            go_simp
            refine hK.out _ _ (by (repeat (first | exact hHeld | exact hHeld3 | (refine Fp.setCell ?_ (Or.inl (by first | assumption | omega)) _)))) (fun hHeld3 => ?_)
            clear hK K
            try simp only [Act.put, List.setIfInBounds_toArray, List.set_cons_zero, List.set_cons_succ]
            refine wpAnyH_done (by kernel_rfl) ?_ _
            go_wp2_with fail
            go_meet
            refine ⟨w0.heap.size, g8, rfl, rfl, ?_, ?_, ?_, ?_, Hw0.out.trans hHeld3 (fun _ _ h => h)⟩ <;> go_simp
        · go_simp
          refine hK.out _ _ (hHeld.alloc _) (fun hHeld2 => ?_)
          clear hK K
          have hb : (u18.alloc (.cells #[.int .u32 0, .int .i64 0] 29)).heap[w0.heap.size]? = _ := (((Fp.refl (fun _ => False) u18).alloc (.cells #[.int .u32 0, .int .i64 0] 29)).block _ (Array.getElem?_eq_some_iff.1 B7.out).1 id).trans B7.out
          have hlt : w0.heap.size < u18.heap.size := (Array.getElem?_eq_some_iff.1 B7.out).1
          clear B7
          have B7 := Lib.hid hb
          clear hb
          have hb : (u18.alloc (.cells #[.int .u32 0, .int .i64 0] 29)).heap[u18.heap.size]? = _ := heap_alloc_new u18 (.cells #[.int .u32 0, .int .i64 0] 29)
          have B8 := Lib.hid hb
          have hge8 : w0.heap.size ≤ u18.heap.size := hHeld.size
          clear hb hHeld
          have hHeld := hHeld2
          clear hHeld2
          generalize (u18.alloc (.cells #[.int .u32 0, .int .i64 0] 29)) = z21 at *
          try simp only [Act.put, List.setIfInBounds_toArray, List.set_cons_zero, List.set_cons_succ]
          refine wpAnyH_ready (rs := [17]) (by kernel_rfl) (by simp) ?_
          refine AllReadyH.cons rfl (fun K hK => ?_) AllReadyH.nil
          · go_simp
            go_at_call 15
            refine (K1.out _).mono ?_
            rintro e u22 ⟨rfl, hp⟩
            have hn : NoW w0 u22 := Fp.trans hHeld hp (fun _ _ h => h)
            have hb := (hp.block _ (Array.getElem?_eq_some_iff.1 B7.out).1 id).trans B7.out
            clear B7
            have B7 := Lib.hid hb
            clear hb
            have hb := (hp.block _ (Array.getElem?_eq_some_iff.1 B8.out).1 id).trans B8.out
            clear B8
            have B8 := Lib.hid hb
            clear hb
            clear hp hHeld
            refine hK.out _ _ hn (fun hHeld => ?_)
            clear hK K hn
            try simp only [Act.put, List.setIfInBounds_toArray, List.set_cons_zero, List.set_cons_succ]
            have c70 : u22.cell? ⟨w0.heap.size, 0, none⟩ = some (.int .u32 0) := by simp [World.cell?, B7.out]
            have z70 : u22.frozen? ⟨w0.heap.size, 0, none⟩ = false := by simp [World.frozen?, B7.out]
            have c71 : u22.cell? ⟨w0.heap.size, 1, none⟩ = some (.int .i64 0) := by simp [World.cell?, B7.out]
            have z71 : u22.frozen? ⟨w0.heap.size, 1, none⟩ = false := by simp [World.frozen?, B7.out]
            have c80 : u22.cell? ⟨u18.heap.size, 0, none⟩ = some (.int .u32 0) := by simp [World.cell?, B8.out]
            have z80 : u22.frozen? ⟨u18.heap.size, 0, none⟩ = false := by simp [World.frozen?, B8.out]
            have c81 : u22.cell? ⟨u18.heap.size, 1, none⟩ = some (.int .i64 0) := by simp [World.cell?, B8.out]
            have z81 : u22.frozen? ⟨u18.heap.size, 1, none⟩ = false := by simp [World.frozen?, B8.out]
            have hne1 : ¬ w0.heap.size = u18.heap.size := by omega
            have hne2 : ¬ u18.heap.size = w0.heap.size := by omega
            clear B7 B8
            generalize u18.heap.size = g8 at *
            refine wpAnyH_ready (rs := [20]) (by kernel_rfl) (by simp) ?_
            refine AllReadyH.cons rfl (fun K hK => ?_) AllReadyH.nil
            go_simp
            refine hK.out _ _ (by (repeat (first | exact hHeld | exact hHeld3 | (refine Fp.setCell ?_ (Or.inl (by first | assumption | omega)) _)))) (fun hHeld3 => ?_)
            clear hK K
            try simp only [Act.put, List.setIfInBounds_toArray, List.set_cons_zero, List.set_cons_succ]
            refine wpAnyH_ready (rs := [21]) (by kernel_rfl) (by simp) ?_
            refine AllReadyH.cons rfl (fun K hK => ?_) AllReadyH.nil
            go_simp
            refine hK.out _ _ (by (repeat (first | exact hHeld | exact hHeld3 | (refine Fp.setCell ?_ (Or.inl (by first | assumption | omega)) _)))) (fun hHeld3 => ?_)
            clear hK K
            try simp only [Act.put, List.setIfInBounds_toArray, List.set_cons_zero, List.set_cons_succ]
            refine wpAnyH_done (by kernel_rfl) ?_ _
            go_wp2_with fail
            go_meet
            refine ⟨w0.heap.size, g8, rfl, rfl, ?_, ?_, ?_, ?_, Hw0.out.trans hHeld3 (fun _ _ h => h)⟩ <;> go_simp
      · go_simp
        refine hK.out _ _ (hHeld.alloc _) (fun hHeld2 => ?_)
        clear hK K
        have hb : (z17.alloc (.cells #[.int .u32 0, .int .i64 0] 29)).heap[w0.heap.size]? = _ := (((Fp.refl (fun _ => False) z17).alloc (.cells #[.int .u32 0, .int .i64 0] 29)).block _ (Array.getElem?_eq_some_iff.1 B7.out).1 id).trans B7.out
        have hlt : w0.heap.size < z17.heap.size := (Array.getElem?_eq_some_iff.1 B7.out).1
        clear B7
        have B7 := Lib.hid hb
        clear hb
        have hb : (z17.alloc (.cells #[.int .u32 0, .int .i64 0] 29)).heap[z17.heap.size]? = _ := heap_alloc_new z17 (.cells #[.int .u32 0, .int .i64 0] 29)
        have B8 := Lib.hid hb
        have hge8 : w0.heap.size ≤ z17.heap.size := hHeld.size
        clear hb hHeld
        have hHeld := hHeld2
        clear hHeld2
        generalize (z17.alloc (.cells #[.int .u32 0, .int .i64 0] 29)) = z23 at *
        try simp only [Act.put, List.setIfInBounds_toArray, List.set_cons_zero, List.set_cons_succ]
        refine wpAnyH_ready (rs := [8]) (by kernel_rfl) (by simp) ?_
        refine AllReadyH.cons rfl (fun K hK => ?_) AllReadyH.nil
        · go_simp
          go_at_call 15
          refine (K0.out _).mono ?_
          rintro e u24 ⟨rfl, hp⟩
          have hn : NoW w0 u24 := Fp.trans hHeld hp (fun _ _ h => h)
          have hb := (hp.block _ (Array.getElem?_eq_some_iff.1 B7.out).1 id).trans B7.out
          clear B7
          have B7 := Lib.hid hb
          clear hb
          have hb := (hp.block _ (Array.getElem?_eq_some_iff.1 B8.out).1 id).trans B8.out
          clear B8
          have B8 := Lib.hid hb
          clear hb
          clear hp hHeld
          refine hK.out _ _ hn (fun hHeld => ?_)
          clear hK K hn
          try simp only [Act.put, List.setIfInBounds_toArray, List.set_cons_zero, List.set_cons_succ]
          refine wpAnyH_ready (rs := [17]) (by kernel_rfl) (by simp) ?_
          refine AllReadyH.cons rfl (fun K hK => ?_) AllReadyH.nil
          · go_simp
            go_at_call 15
            refine (K1.out _).mono ?_
            rintro e u25 ⟨rfl, hp⟩
            have hn : NoW w0 u25 := Fp.trans hHeld hp (fun _ _ h => h)
            have hb := (hp.block _ (Array.getElem?_eq_some_iff.1 B7.out).1 id).trans B7.out
            clear B7
            have B7 := Lib.hid hb
            clear hb
            have hb := (hp.block _ (Array.getElem?_eq_some_iff.1 B8.out).1 id).trans B8.out
            clear B8
            have B8 := Lib.hid hb
            clear hb
            clear hp hHeld
            refine hK.out _ _ hn (fun hHeld => ?_)
            clear hK K hn
            try simp only [Act.put, List.setIfInBounds_toArray, List.set_cons_zero, List.set_cons_succ]
            have c70 : u25.cell? ⟨w0.heap.size, 0, none⟩ = some (.int .u32 0) := by simp [World.cell?, B7.out]
            have z70 : u25.frozen? ⟨w0.heap.size, 0, none⟩ = false := by simp [World.frozen?, B7.out]
            have c71 : u25.cell? ⟨w0.heap.size, 1, none⟩ = some (.int .i64 0) := by simp [World.cell?, B7.out]
            have z71 : u25.frozen? ⟨w0.heap.size, 1, none⟩ = false := by simp [World.frozen?, B7.out]
            have c80 : u25.cell? ⟨z17.heap.size, 0, none⟩ = some (.int .u32 0) := by simp [World.cell?, B8.out]
            have z80 : u25.frozen? ⟨z17.heap.size, 0, none⟩ = false := by simp [World.frozen?, B8.out]
            have c81 : u25.cell? ⟨z17.heap.size, 1, none⟩ = some (.int .i64 0) := by simp [World.cell?, B8.out]
            have z81 : u25.frozen? ⟨z17.heap.size, 1, none⟩ = false := by simp [World.frozen?, B8.out]
            have hne1 : ¬ w0.heap.size = z17.heap.size := by omega
            have hne2 : ¬ z17.heap.size = w0.heap.size := by omega
            clear B7 B8
            generalize z17.heap.size = g8 at *
            refine wpAnyH_ready (rs := [20]) (by kernel_rfl) (by simp) ?_
            refine AllReadyH.cons rfl (fun K hK => ?_) AllReadyH.nil
            go_simp
            refine hK.out _ _ (by (repeat (first | exact hHeld | exact hHeld3 | (refine Fp.setCell ?_ (Or.inl (by first | assumption | omega)) _)))) (fun hHeld3 => ?_)
            clear hK K
            try simp only [Act.put, List.setIfInBounds_toArray, List.set_cons_zero, List.set_cons_succ]
            refine wpAnyH_ready (rs := [21]) (by kernel_rfl) (by simp) ?_
            refine AllReadyH.cons rfl (fun K hK => ?_) AllReadyH.nil
            go_simp
            refine hK.out _ _ (by (repeat (first | exact hHeld | exact hHeld3 | (refine Fp.setCell ?_ (Or.inl (by first | assumption | omega)) _)))) (fun hHeld3 => ?_)
            clear hK K
            try simp only [Act.put, List.setIfInBounds_toArray, List.set_cons_zero, List.set_cons_succ]
            refine wpAnyH_done (by kernel_rfl) ?_ _
            go_wp2_with fail
            go_meet
            refine ⟨w0.heap.size, g8, rfl, rfl, ?_, ?_, ?_, ?_, Hw0.out.trans hHeld3 (fun _ _ h => h)⟩ <;> go_simp
    · go_simp
      refine hK.out _ _ (Fp.drew ((Fp.refl _ _).alloc _)) (fun hHeld2 => ?_)
      clear hK K
      have hb : (w0.alloc (.cells #[.int .u32 0, .int .i64 0] 29)).drew.heap[w0.heap.size]? = _ := heap_alloc_new w0 (.cells #[.int .u32 0, .int .i64 0] 29)
      have B8 := Lib.hid hb
      have hge8 : w0.heap.size ≤ w0.heap.size := hHeld.size
      clear hb hHeld
      have hHeld := hHeld2
      clear hHeld2
      generalize (w0.alloc (.cells #[.int .u32 0, .int .i64 0] 29)).drew = z26 at *
      try simp only [Act.put, List.setIfInBounds_toArray, List.set_cons_zero, List.set_cons_succ]
      refine wpAnyH_ready (rs := [8, 18]) (by kernel_rfl) (by simp) ?_
      refine AllReadyH.cons rfl (fun K hK => ?_) (AllReadyH.cons rfl (fun K hK => ?_) AllReadyH.nil)
      · go_simp
        go_at_call 15
        refine (K0.out _).mono ?_
        rintro e u27 ⟨rfl, hp⟩
        have hn : NoW w0 u27 := Fp.trans hHeld hp (fun _ _ h => h)
        have hb := (hp.block _ (Array.getElem?_eq_some_iff.1 B8.out).1 id).trans B8.out
        clear B8
        have B8 := Lib.hid hb
        clear hb
        clear hp hHeld
        refine hK.out _ _ hn (fun hHeld => ?_)
        clear hK K hn
        try simp only [Act.put, List.setIfInBounds_toArray, List.set_cons_zero, List.set_cons_succ]
        refine wpAnyH_ready (rs := [17, 18]) (by kernel_rfl) (by simp) ?_
        refine AllReadyH.cons rfl (fun K hK => ?_) (AllReadyH.cons rfl (fun K hK => ?_) AllReadyH.nil)
        · go_simp
          go_at_call 15
          refine (K1.out _).mono ?_
          rintro e u28 ⟨rfl, hp⟩
          have hn : NoW w0 u28 := Fp.trans hHeld hp (fun _ _ h => h)
          have hb := (hp.block _ (Array.getElem?_eq_some_iff.1 B8.out).1 id).trans B8.out
          clear B8
          have B8 := Lib.hid hb
          clear hb
          clear hp hHeld
          refine hK.out _ _ hn (fun hHeld => ?_)
          clear hK K hn
          try simp only [Act.put, List.setIfInBounds_toArray, List.set_cons_zero, List.set_cons_succ]
          refine wpAnyH_ready (rs := [18]) (by kernel_rfl) (by simp) ?_
          refine AllReadyH.cons rfl (fun K hK => ?_) AllReadyH.nil
          · go_simp
            refine hK.out _ _ (hHeld.alloc _) (fun hHeld2 => ?_)
            clear hK K
            have hb : (u28.alloc (.cells #[.int .u32 0, .int .i64 0] 29)).heap[w0.heap.size]? = _ := (((Fp.refl (fun _ => False) u28).alloc (.cells #[.int .u32 0, .int .i64 0] 29)).block _ (Array.getElem?_eq_some_iff.1 B8.out).1 id).trans B8.out
            have hlt : w0.heap.size < u28.heap.size := (Array.getElem?_eq_some_iff.1 B8.out).1
            clear B8
            have B8 := Lib.hid hb
            clear hb
            have hb : (u28.alloc (.cells #[.int .u32 0, .int .i64 0] 29)).heap[u28.heap.size]? = _ := heap_alloc_new u28 (.cells #[.int .u32 0, .int .i64 0] 29)
            have B7 := Lib.hid hb
            have hge7 : w0.heap.size ≤ u28.heap.size := hHeld.size
            clear hb hHeld
            have hHeld := hHeld2
            clear hHeld2
            generalize (u28.alloc (.cells #[.int .u32 0, .int .i64 0] 29)) = z29 at *
            try simp only [Act.put, List.setIfInBounds_toArray, List.set_cons_zero, List.set_cons_succ]
            have c70 : z29.cell? ⟨u28.heap.size, 0, none⟩ = some (.int .u32 0) := by simp [World.cell?, B7.out]
            have z70 : z29.frozen? ⟨u28.heap.size, 0, none⟩ = false := by simp [World.frozen?, B7.out]
            have c71 : z29.cell? ⟨u28.heap.size, 1, none⟩ = some (.int .i64 0) := by simp [World.cell?, B7.out]
            have z71 : z29.frozen? ⟨u28.heap.size, 1, none⟩ = false := by simp [World.frozen?, B7.out]
            have c80 : z29.cell? ⟨w0.heap.size, 0, none⟩ = some (.int .u32 0) := by simp [World.cell?, B8.out]
            have z80 : z29.frozen? ⟨w0.heap.size, 0, none⟩ = false := by simp [World.frozen?, B8.out]
            have c81 : z29.cell? ⟨w0.heap.size, 1, none⟩ = some (.int .i64 0) := by simp [World.cell?, B8.out]
            have z81 : z29.frozen? ⟨w0.heap.size, 1, none⟩ = false := by simp [World.frozen?, B8.out]
            have hne1 : ¬ u28.heap.size = w0.heap.size := by omega
            have hne2 : ¬ w0.heap.size = u28.heap.size := by omega
            clear B7 B8
            generalize u28.heap.size = g7 at *
            refine wpAnyH_ready (rs := [20]) (by kernel_rfl) (by simp) ?_
            refine AllReadyH.cons rfl (fun K hK => ?_) AllReadyH.nil
            go_simp
            refine hK.out _ _ (by (repeat (first | exact hHeld | exact hHeld3 | (refine Fp.setCell ?_ (Or.inl (by first | assumption | omega)) _)))) (fun hHeld3 => ?_)
            clear hK K
            try simp only [Act.put, List.setIfInBounds_toArray, List.set_cons_zero, List.set_cons_succ]
            refine wpAnyH_ready (rs := [21]) (by kernel_rfl) (by simp) ?_
            refine AllReadyH.cons rfl (fun K hK => ?_) AllReadyH.nil
            go_simp
            refine hK.out _ _ (by (repeat (first | exact hHeld | exact hHeld3 | (refine Fp.setCell ?_ (Or.inl (by first | assumption | omega)) _)))) (fun hHeld3 => ?_)
            clear hK K
            try simp only [Act.put, List.setIfInBounds_toArray, List.set_cons_zero, List.set_cons_succ]
            refine wpAnyH_done (by kernel_rfl) ?_ _
            go_wp2_with fail
            go_meet
            refine ⟨g7, w0.heap.size, rfl, rfl, ?_, ?_, ?_, ?_, Hw0.out.trans hHeld3 (fun _ _ h => h)⟩ <;> go_simp
        · go_simp
          refine hK.out _ _ (hHeld.alloc _) (fun hHeld2 => ?_)
          clear hK K
          have hb : (u27.alloc (.cells #[.int .u32 0, .int .i64 0] 29)).heap[w0.heap.size]? = _ := (((Fp.refl (fun _ => False) u27).alloc (.cells #[.int .u32 0, .int .i64 0] 29)).block _ (Array.getElem?_eq_some_iff.1 B8.out).1 id).trans B8.out
          have hlt : w0.heap.size < u27.heap.size := (Array.getElem?_eq_some_iff.1 B8.out).1
          clear B8
          have B8 := Lib.hid hb
          clear hb
          have hb : (u27.alloc (.cells #[.int .u32 0, .int .i64 0] 29)).heap[u27.heap.size]? = _ := heap_alloc_new u27 (.cells #[.int .u32 0, .int .i64 0] 29)
          have B7 := Lib.hid hb
          have hge7 : w0.heap.size ≤ u27.heap.size := hHeld.size
          clear hb hHeld
          have hHeld := hHeld2
          clear hHeld2
          generalize (u27.alloc (.cells #[.int .u32 0, .int .i64 0] 29)) = z30 at *
          try simp only [Act.put, List.setIfInBounds_toArray, List.set_cons_zero, List.set_cons_succ]
          refine wpAnyH_ready (rs := [17]) (by kernel_rfl) (by simp) ?_
          refine AllReadyH.cons rfl (fun K hK => ?_) AllReadyH.nil
          · go_simp
            go_at_call 15
            refine (K1.out _).mono ?_
            rintro e u31 ⟨rfl, hp⟩
            have hn : NoW w0 u31 := Fp.trans hHeld hp (fun _ _ h => h)
            have hb := (hp.block _ (Array.getElem?_eq_some_iff.1 B8.out).1 id).trans B8.out
            clear B8
            have B8 := Lib.hid hb
            clear hb
            have hb := (hp.block _ (Array.getElem?_eq_some_iff.1 B7.out).1 id).trans B7.out
            clear B7
            have B7 := Lib.hid hb
            clear hb
            clear hp hHeld
            refine hK.out _ _ hn (fun hHeld => ?_)
            clear hK K hn
            try simp only [Act.put, List.setIfInBounds_toArray, List.set_cons_zero, List.set_cons_succ]
            have c70 : u31.cell? ⟨u27.heap.size, 0, none⟩ = some (.int .u32 0) := by simp [World.cell?, B7.out]
            have z70 : u31.frozen? ⟨u27.heap.size, 0, none⟩ = false := by simp [World.frozen?, B7.out]
            have c71 : u31.cell? ⟨u27.heap.size, 1, none⟩ = some (.int .i64 0) := by simp [World.cell?, B7.out]
            have z71 : u31.frozen? ⟨u27.heap.size, 1, none⟩ = false := by simp [World.frozen?, B7.out]
            have c80 : u31.cell? ⟨w0.heap.size, 0, none⟩ = some (.int .u32 0) := by simp [World.cell?, B8.out]
            have z80 : u31.frozen? ⟨w0.heap.size, 0, none⟩ = false := by simp [World.frozen?, B8.out]
            have c81 : u31.cell? ⟨w0.heap.size, 1, none⟩ = some (.int .i64 0) := by simp [World.cell?, B8.out]
            have z81 : u31.frozen? ⟨w0.heap.size, 1, none⟩ = false := by simp [World.frozen?, B8.out]
            have hne1 : ¬ u27.heap.size = w0.heap.size := by omega
            have hne2 : ¬ w0.heap.size = u27.heap.size := by omega
            clear B7 B8
            generalize u27.heap.size = g7 at *
            refine wpAnyH_ready (rs := [20]) (by kernel_rfl) (by simp) ?_
            refine AllReadyH.cons rfl (fun K hK => ?_) AllReadyH.nil
            go_simp
            refine hK.out _ _ (by (repeat (first | exact hHeld | exact hHeld3 | (refine Fp.setCell ?_ (Or.inl (by first | assumption | omega)) _)))) (fun hHeld3 => ?_)
            clear hK K
            try simp only [Act.put, List.setIfInBounds_toArray, List.set_cons_zero, List.set_cons_succ]
            refine wpAnyH_ready (rs := [21]) (by kernel_rfl) (by simp) ?_
            refine AllReadyH.cons rfl (fun K hK => ?_) AllReadyH.nil
            go_simp
            refine hK.out _ _ (by (repeat (first | exact hHeld | exact hHeld3 | (refine Fp.setCell ?_ (Or.inl (by first | assumption | omega)) _)))) (fun hHeld3 => ?_)
            clear hK K
            try simp only [Act.put, List.setIfInBounds_toArray, List.set_cons_zero, List.set_cons_succ]
            refine wpAnyH_done (by kernel_rfl) ?_ _
            go_wp2_with fail
            go_meet
            refine ⟨g7, w0.heap.size, rfl, rfl, ?_, ?_, ?_, ?_, Hw0.out.trans hHeld3 (fun _ _ h => h)⟩ <;> go_simp
      · go_simp
        refine hK.out _ _ (hHeld.alloc _) (fun hHeld2 => ?_)
        clear hK K
        have hb : (z26.alloc (.cells #[.int .u32 0, .int .i64 0] 29)).heap[w0.heap.size]? = _ := (((Fp.refl (fun _ => False) z26).alloc (.cells #[.int .u32 0, .int .i64 0] 29)).block _ (Array.getElem?_eq_some_iff.1 B8.out).1 id).trans B8.out
        have hlt : w0.heap.size < z26.heap.size := (Array.getElem?_eq_some_iff.1 B8.out).1
        clear B8
        have B8 := Lib.hid hb
        clear hb
        have hb : (z26.alloc (.cells #[.int .u32 0, .int .i64 0] 29)).heap[z26.heap.size]? = _ := heap_alloc_new z26 (.cells #[.int .u32 0, .int .i64 0] 29)
        have B7 := Lib.hid hb
        have hge7 : w0.heap.size ≤ z26.heap.size := hHeld.size
        clear hb hHeld
        have hHeld := hHeld2
        clear hHeld2
        generalize (z26.alloc (.cells #[.int .u32 0, .int .i64 0] 29)) = z32 at *
        try simp only [Act.put, List.setIfInBounds_toArray, List.set_cons_zero, List.set_cons_succ]
        refine wpAnyH_ready (rs := [8]) (by kernel_rfl) (by simp) ?_
        refine AllReadyH.cons rfl (fun K hK => ?_) AllReadyH.nil
        · go_simp
          go_at_call 15
          refine (K0.out _).mono ?_
          rintro e u33 ⟨rfl, hp⟩
          have hn : NoW w0 u33 := Fp.trans hHeld hp (fun _ _ h => h)
          have hb := (hp.block _ (Array.getElem?_eq_some_iff.1 B8.out).1 id).trans B8.out
          clear B8
          have B8 := Lib.hid hb
          clear hb
          have hb := (hp.block _ (Array.getElem?_eq_some_iff.1 B7.out).1 id).trans B7.out
          clear B7
          have B7 := Lib.hid hb
          clear hb
          clear hp hHeld
          refine hK.out _ _ hn (fun hHeld => ?_)
          clear hK K hn
          try simp only [Act.put, List.setIfInBounds_toArray, List.set_cons_zero, List.set_cons_succ]
          refine wpAnyH_ready (rs := [17]) (by kernel_rfl) (by simp) ?_
          refine AllReadyH.cons rfl (fun K hK => ?_) AllReadyH.nil
          · go_simp
            go_at_call 15
            refine (K1.out _).mono ?_
            rintro e u34 ⟨rfl, hp⟩
            have hn : NoW w0 u34 := Fp.trans hHeld hp (fun _ _ h => h)
            have hb := (hp.block _ (Array.getElem?_eq_some_iff.1 B8.out).1 id).trans B8.out
            clear B8
            have B8 := Lib.hid hb
            clear hb
            have hb := (hp.block _ (Array.getElem?_eq_some_iff.1 B7.out).1 id).trans B7.out
            clear B7
            have B7 := Lib.hid hb
            clear hb
            clear hp hHeld
            refine hK.out _ _ hn (fun hHeld => ?_)
            clear hK K hn
            try simp only [Act.put, List.setIfInBounds_toArray, List.set_cons_zero, List.set_cons_succ]
            have c70 : u34.cell? ⟨z26.heap.size, 0, none⟩ = some (.int .u32 0) := by simp [World.cell?, B7.out]
            have z70 : u34.frozen? ⟨z26.heap.size, 0, none⟩ = false := by simp [World.frozen?, B7.out]
            have c71 : u34.cell? ⟨z26.heap.size, 1, none⟩ = some (.int .i64 0) := by simp [World.cell?, B7.out]
            have z71 : u34.frozen? ⟨z26.heap.size, 1, none⟩ = false := by simp [World.frozen?, B7.out]
            have c80 : u34.cell? ⟨w0.heap.size, 0, none⟩ = some (.int .u32 0) := by simp [World.cell?, B8.out]
            have z80 : u34.frozen? ⟨w0.heap.size, 0, none⟩ = false := by simp [World.frozen?, B8.out]
            have c81 : u34.cell? ⟨w0.heap.size, 1, none⟩ = some (.int .i64 0) := by simp [World.cell?, B8.out]
            have z81 : u34.frozen? ⟨w0.heap.size, 1, none⟩ = false := by simp [World.frozen?, B8.out]
            have hne1 : ¬ z26.heap.size = w0.heap.size := by omega
            have hne2 : ¬ w0.heap.size = z26.heap.size := by omega
            clear B7 B8
            generalize z26.heap.size = g7 at *
            refine wpAnyH_ready (rs := [20]) (by kernel_rfl) (by simp) ?_
            refine AllReadyH.cons rfl (fun K hK => ?_) AllReadyH.nil
            go_simp
            refine hK.out _ _ (by (repeat (first | exact hHeld | exact hHeld3 | (refine Fp.setCell ?_ (Or.inl (by first | assumption | omega)) _)))) (fun hHeld3 => ?_)
            clear hK K
            try simp only [Act.put, List.setIfInBounds_toArray, List.set_cons_zero, List.set_cons_succ]
            refine wpAnyH_ready (rs := [21]) (by kernel_rfl) (by simp) ?_
            refine AllReadyH.cons rfl (fun K hK => ?_) AllReadyH.nil
            go_simp
            refine hK.out _ _ (by (repeat (first | exact hHeld | exact hHeld3 | (refine Fp.setCell ?_ (Or.inl (by first | assumption | omega)) _)))) (fun hHeld3 => ?_)
            clear hK K
            try simp only [Act.put, List.setIfInBounds_toArray, List.set_cons_zero, List.set_cons_succ]
            refine wpAnyH_done (by kernel_rfl) ?_ _
            go_wp2_with fail
            go_meet
            refine ⟨g7, w0.heap.size, rfl, rfl, ?_, ?_, ?_, ?_, Hw0.out.trans hHeld3 (fun _ _ h => h)⟩ <;> go_simp
  case rest =>
    obtain ⟨g7, g8, rfl, rfl, c70, c71, c80, c81, hn⟩ := hcut
    have Hn := Lib.hid hn
    have l7 := cell_lt c70
    have l8 := cell_lt c80
    have hk : ((32 : Int) - (m : Int)) = ((32 - m : Nat) : Int) := by omega
    have hs1 : IntKind.u64.wrap ((2 : Int) ^ (32 - m)) = (s : Int) := by
      have e : ((2 : Int) ^ (32 - m)) = (s : Int) := by rw [Hs.out]; simp
      rw [e]; exact IntWalk.u64_in _ (by omega)
    have hs0 : 1 ≤ s := by rw [Hs.out]; exact Nat.one_le_two_pow
    have hs2 : IntKind.u64.wrap (s : Int) = s := IntWalk.u64_in _ (by omega)
    have hla2 := Hla.out
    have hi1 : IntKind.u64.wrap (ip : Int) = ip := IntWalk.u64_in _ (by omega)
    have hi2 : IntKind.u64.wrap ((ip : Int) + (s : Int)) = (ip : Int) + (s : Int) := IntWalk.u64_in _ (by omega)
    have hi3 : IntKind.u64.wrap ((ip : Int) + (s : Int) - 1) = (la : Int) := by
      rw [IntWalk.u64_in _ (by omega)]; omega
    have hi4 : (la : Int) % 4294967296 = (la : Int) := by omega
    have hipla : ip ≤ la := by omega
    clear hn hs32 hla2 hs0
    go_wp2_with fail
    go_quiet (fail)
    go_wp2_with fail
    have hn0 := Hn.out.drewN nq
    have Hn0 := Lib.hid hn0
    clear hn0 Hn hi1 hi2 hi3 hi4 hs1 hs2 hk
    refine (K2.out _).mono ?_
    rintro e v0 ⟨rfl, hq⟩
    have Hm0 := Lib.hid (Hn0.out.trans hq (fun _ _ h => h))
    have d := (hq.cell (p := ⟨g7, 0, none⟩) l7 id).trans c70
    clear c70
    have c70 := d
    clear d
    have d := (hq.cell (p := ⟨g7, 1, none⟩) l7 id).trans c71
    clear c71
    have c71 := d
    clear d
    have d := (hq.cell (p := ⟨g8, 0, none⟩) l8 id).trans c80
    clear c80
    have c80 := d
    clear d
    have d := (hq.cell (p := ⟨g8, 1, none⟩) l8 id).trans c81
    clear c81
    have c81 := d
    clear d
    clear l7
    have l7 := cell_lt c70
    clear l8
    have l8 := cell_lt c80
    clear hq Hn0
    rcases Hloc.out with ⟨hb, rfl⟩ | ⟨hb1, hb2, rfl⟩ | ⟨hb, rfl⟩
    · have hd1 : decide ((b : Int) ≥ (ip : Int)) = false := by simp; omega
      have hd2 : ¬ (ip : Int) ≤ (b : Int) := by omega
      have hd4 : ¬ ip ≤ b := by omega
      go_wp2_with fail
      refine (K3.out _).mono ?_
      rintro e va00 ⟨rfl, hq⟩
      have Hma00 := Lib.hid (Hm0.out.trans hq (fun _ _ h => h))
      have d := (hq.cell (p := ⟨g7, 0, none⟩) l7 id).trans c70
      clear c70
      have c70 := d
      clear d
      have d := (hq.cell (p := ⟨g7, 1, none⟩) l7 id).trans c71
      clear c71
      have c71 := d
      clear d
      have d := (hq.cell (p := ⟨g8, 0, none⟩) l8 id).trans c80
      clear c80
      have c80 := d
      clear d
      have d := (hq.cell (p := ⟨g8, 1, none⟩) l8 id).trans c81
      clear c81
      have c81 := d
      clear d
      clear l7
      have l7 := cell_lt c70
      clear l8
      have l8 := cell_lt c80
      clear hq Hm0
      go_wp2_with fail
      refine (K4.out _).mono ?_
      rintro e va01 ⟨rfl, hq⟩
      have Hma01 := Lib.hid (Hma00.out.trans hq (fun _ _ h => h))
      have d := (hq.cell (p := ⟨g7, 0, none⟩) l7 id).trans c70
      clear c70
      have c70 := d
      clear d
      have d := (hq.cell (p := ⟨g7, 1, none⟩) l7 id).trans c71
      clear c71
      have c71 := d
      clear d
      have d := (hq.cell (p := ⟨g8, 0, none⟩) l8 id).trans c80
      clear c80
      have c80 := d
      clear d
      have d := (hq.cell (p := ⟨g8, 1, none⟩) l8 id).trans c81
      clear c81
      have c81 := d
      clear d
      clear l7
      have l7 := cell_lt c70
      clear l8
      have l8 := cell_lt c80
      clear hq Hma00
      go_wp2_with fail
      refine (K5.out _).mono ?_
      rintro e va02 ⟨rfl, hq⟩
      have Hma02 := Lib.hid (Hma01.out.trans hq (fun _ _ h => h))
      have d := (hq.cell (p := ⟨g7, 0, none⟩) l7 id).trans c70
      clear c70
      have c70 := d
      clear d
      have d := (hq.cell (p := ⟨g7, 1, none⟩) l7 id).trans c71
      clear c71
      have c71 := d
      clear d
      have d := (hq.cell (p := ⟨g8, 0, none⟩) l8 id).trans c80
      clear c80
      have c80 := d
      clear d
      have d := (hq.cell (p := ⟨g8, 1, none⟩) l8 id).trans c81
      clear c81
      have c81 := d
      clear d
      clear l7
      have l7 := cell_lt c70
      clear l8
      have l8 := cell_lt c80
      clear hq Hma01
      go_wp2_with fail
      refine (K6.out _).mono ?_
      rintro e va03 ⟨rfl, hq⟩
      have Hma03 := Lib.hid (Hma02.out.trans hq (fun _ _ h => h))
      have d := (hq.cell (p := ⟨g7, 0, none⟩) l7 id).trans c70
      clear c70
      have c70 := d
      clear d
      have d := (hq.cell (p := ⟨g7, 1, none⟩) l7 id).trans c71
      clear c71
      have c71 := d
      clear d
      have d := (hq.cell (p := ⟨g8, 0, none⟩) l8 id).trans c80
      clear c80
      have c80 := d
      clear d
      have d := (hq.cell (p := ⟨g8, 1, none⟩) l8 id).trans c81
      clear c81
      have c81 := d
      clear d
      clear l7
      have l7 := cell_lt c70
      clear l8
      have l8 := cell_lt c80
      clear hq Hma02
      go_wp2_with fail
      refine (K7.out _).mono ?_
      rintro e va04 ⟨rfl, hq⟩
      have Hma04 := Lib.hid (Hma03.out.trans hq (fun _ _ h => h))
      have d := (hq.cell (p := ⟨g7, 0, none⟩) l7 id).trans c70
      clear c70
      have c70 := d
      clear d
      have d := (hq.cell (p := ⟨g7, 1, none⟩) l7 id).trans c71
      clear c71
      have c71 := d
      clear d
      have d := (hq.cell (p := ⟨g8, 0, none⟩) l8 id).trans c80
      clear c80
      have c80 := d
      clear d
      have d := (hq.cell (p := ⟨g8, 1, none⟩) l8 id).trans c81
      clear c81
      have c81 := d
      clear d
      clear l7
      have l7 := cell_lt c70
      clear l8
      have l8 := cell_lt c80
      clear hq Hma03
      go_wp2_with fail
      refine (K8.out _).mono ?_
      rintro e va05 ⟨rfl, hq⟩
      have Hma05 := Lib.hid (Hma04.out.trans hq (fun _ _ h => h))
      have d := (hq.cell (p := ⟨g7, 0, none⟩) l7 id).trans c70
      clear c70
      have c70 := d
      clear d
      have d := (hq.cell (p := ⟨g7, 1, none⟩) l7 id).trans c71
      clear c71
      have c71 := d
      clear d
      have d := (hq.cell (p := ⟨g8, 0, none⟩) l8 id).trans c80
      clear c80
      have c80 := d
      clear d
      have d := (hq.cell (p := ⟨g8, 1, none⟩) l8 id).trans c81
      clear c81
      have c81 := d
      clear d
      clear l7
      have l7 := cell_lt c70
      clear l8
      have l8 := cell_lt c80
      clear hq Hma04
      rcases inn with _ | _
      · go_wp2_with fail
        refine (named_ok _ (Ht.out.low Hma05.out)).mono ?_
        rintro e y ⟨rfl, hq⟩
        have hz := Hma05.out.trans hq (fun _ _ h => h)
        clear hq
        go_wp2_with fail
        go_ret
        exact ⟨rfl, hz⟩
      · go_wp2_with fail
        refine (K2.out _).mono ?_
        rintro e vb010 ⟨rfl, hq⟩
        have Hmb010 := Lib.hid (Hma05.out.trans hq (fun _ _ h => h))
        have d := (hq.cell (p := ⟨g7, 0, none⟩) l7 id).trans c70
        clear c70
        have c70 := d
        clear d
        have d := (hq.cell (p := ⟨g7, 1, none⟩) l7 id).trans c71
        clear c71
        have c71 := d
        clear d
        have d := (hq.cell (p := ⟨g8, 0, none⟩) l8 id).trans c80
        clear c80
        have c80 := d
        clear d
        have d := (hq.cell (p := ⟨g8, 1, none⟩) l8 id).trans c81
        clear c81
        have c81 := d
        clear d
        clear l7
        have l7 := cell_lt c70
        clear l8
        have l8 := cell_lt c80
        clear hq Hma05
        go_wp2_with fail
        refine (named_ok _ (Ht.out.low Hmb010.out)).mono ?_
        rintro e y ⟨rfl, hq⟩
        have hz := Hmb010.out.trans hq (fun _ _ h => h)
        clear hq
        go_wp2_with fail
        go_ret
        exact ⟨rfl, hz⟩
    · have hd1 : decide ((b : Int) ≥ (ip : Int)) = true := by simp; omega
      have hd2 : (ip : Int) ≤ (b : Int) := by omega
      have hd4 : ip ≤ b := by omega
      have hd3 : decide ((b : Int) ≤ (la : Int)) = true := by simp; omega
      have hd5 : (b : Int) ≤ (la : Int) := by omega
      go_wp2_with fail
      refine (K3.out _).mono ?_
      rintro e va10 ⟨rfl, hq⟩
      have Hma10 := Lib.hid (Hm0.out.trans hq (fun _ _ h => h))
      have d := (hq.cell (p := ⟨g7, 0, none⟩) l7 id).trans c70
      clear c70
      have c70 := d
      clear d
      have d := (hq.cell (p := ⟨g7, 1, none⟩) l7 id).trans c71
      clear c71
      have c71 := d
      clear d
      have d := (hq.cell (p := ⟨g8, 0, none⟩) l8 id).trans c80
      clear c80
      have c80 := d
      clear d
      have d := (hq.cell (p := ⟨g8, 1, none⟩) l8 id).trans c81
      clear c81
      have c81 := d
      clear d
      clear l7
      have l7 := cell_lt c70
      clear l8
      have l8 := cell_lt c80
      clear hq Hm0
      go_wp2_with fail
      refine (K4.out _).mono ?_
      rintro e va11 ⟨rfl, hq⟩
      have Hma11 := Lib.hid (Hma10.out.trans hq (fun _ _ h => h))
      have d := (hq.cell (p := ⟨g7, 0, none⟩) l7 id).trans c70
      clear c70
      have c70 := d
      clear d
      have d := (hq.cell (p := ⟨g7, 1, none⟩) l7 id).trans c71
      clear c71
      have c71 := d
      clear d
      have d := (hq.cell (p := ⟨g8, 0, none⟩) l8 id).trans c80
      clear c80
      have c80 := d
      clear d
      have d := (hq.cell (p := ⟨g8, 1, none⟩) l8 id).trans c81
      clear c81
      have c81 := d
      clear d
      clear l7
      have l7 := cell_lt c70
      clear l8
      have l8 := cell_lt c80
      clear hq Hma10
      go_wp2_with fail
      refine (K5.out _).mono ?_
      rintro e va12 ⟨rfl, hq⟩
      have Hma12 := Lib.hid (Hma11.out.trans hq (fun _ _ h => h))
      have d := (hq.cell (p := ⟨g7, 0, none⟩) l7 id).trans c70
      clear c70
      have c70 := d
      clear d
      have d := (hq.cell (p := ⟨g7, 1, none⟩) l7 id).trans c71
      clear c71
      have c71 := d
      clear d
      have d := (hq.cell (p := ⟨g8, 0, none⟩) l8 id).trans c80
      clear c80
      have c80 := d
      clear d
      have d := (hq.cell (p := ⟨g8, 1, none⟩) l8 id).trans c81
      clear c81
      have c81 := d
      clear d
      clear l7
      have l7 := cell_lt c70
      clear l8
      have l8 := cell_lt c80
      clear hq Hma11
      go_wp2_with fail
      refine (K6.out _).mono ?_
      rintro e va13 ⟨rfl, hq⟩
      have Hma13 := Lib.hid (Hma12.out.trans hq (fun _ _ h => h))
      have d := (hq.cell (p := ⟨g7, 0, none⟩) l7 id).trans c70
      clear c70
      have c70 := d
      clear d
      have d := (hq.cell (p := ⟨g7, 1, none⟩) l7 id).trans c71
      clear c71
      have c71 := d
      clear d
      have d := (hq.cell (p := ⟨g8, 0, none⟩) l8 id).trans c80
      clear c80
      have c80 := d
      clear d
      have d := (hq.cell (p := ⟨g8, 1, none⟩) l8 id).trans c81
      clear c81
      have c81 := d
      clear d
      clear l7
      have l7 := cell_lt c70
      clear l8
      have l8 := cell_lt c80
      clear hq Hma12
      go_wp2_with fail
      refine (K7.out _).mono ?_
      rintro e va14 ⟨rfl, hq⟩
      have Hma14 := Lib.hid (Hma13.out.trans hq (fun _ _ h => h))
      have d := (hq.cell (p := ⟨g7, 0, none⟩) l7 id).trans c70
      clear c70
      have c70 := d
      clear d
      have d := (hq.cell (p := ⟨g7, 1, none⟩) l7 id).trans c71
      clear c71
      have c71 := d
      clear d
      have d := (hq.cell (p := ⟨g8, 0, none⟩) l8 id).trans c80
      clear c80
      have c80 := d
      clear d
      have d := (hq.cell (p := ⟨g8, 1, none⟩) l8 id).trans c81
      clear c81
      have c81 := d
      clear d
      clear l7
      have l7 := cell_lt c70
      clear l8
      have l8 := cell_lt c80
      clear hq Hma13
      go_wp2_with fail
      refine (K8.out _).mono ?_
      rintro e va15 ⟨rfl, hq⟩
      have Hma15 := Lib.hid (Hma14.out.trans hq (fun _ _ h => h))
      have d := (hq.cell (p := ⟨g7, 0, none⟩) l7 id).trans c70
      clear c70
      have c70 := d
      clear d
      have d := (hq.cell (p := ⟨g7, 1, none⟩) l7 id).trans c71
      clear c71
      have c71 := d
      clear d
      have d := (hq.cell (p := ⟨g8, 0, none⟩) l8 id).trans c80
      clear c80
      have c80 := d
      clear d
      have d := (hq.cell (p := ⟨g8, 1, none⟩) l8 id).trans c81
      clear c81
      have c81 := d
      clear d
      clear l7
      have l7 := cell_lt c70
      clear l8
      have l8 := cell_lt c80
      clear hq Hma14
      rcases inn with _ | _
      · go_wp2_with fail
        refine (named_ok _ (Ht.out.low Hma15.out)).mono ?_
        rintro e y ⟨rfl, hq⟩
        have hz := Hma15.out.trans hq (fun _ _ h => h)
        clear hq
        go_wp2_with fail
        go_ret
        exact ⟨rfl, hz⟩
      · go_wp2_with fail
        refine (K2.out _).mono ?_
        rintro e vb110 ⟨rfl, hq⟩
        have Hmb110 := Lib.hid (Hma15.out.trans hq (fun _ _ h => h))
        have d := (hq.cell (p := ⟨g7, 0, none⟩) l7 id).trans c70
        clear c70
        have c70 := d
        clear d
        have d := (hq.cell (p := ⟨g7, 1, none⟩) l7 id).trans c71
        clear c71
        have c71 := d
        clear d
        have d := (hq.cell (p := ⟨g8, 0, none⟩) l8 id).trans c80
        clear c80
        have c80 := d
        clear d
        have d := (hq.cell (p := ⟨g8, 1, none⟩) l8 id).trans c81
        clear c81
        have c81 := d
        clear d
        clear l7
        have l7 := cell_lt c70
        clear l8
        have l8 := cell_lt c80
        clear hq Hma15
        go_wp2_with fail
        refine (K9.out (by simp) (by simp) _).mono ?_
        rintro e vb111 ⟨rfl, hq⟩
        have Hmb111 := Lib.hid (Hmb110.out.trans hq (fun _ _ h => h))
        have d := (hq.cell (p := ⟨g7, 0, none⟩) l7 id).trans c70
        clear c70
        have c70 := d
        clear d
        have d := (hq.cell (p := ⟨g7, 1, none⟩) l7 id).trans c71
        clear c71
        have c71 := d
        clear d
        have d := (hq.cell (p := ⟨g8, 0, none⟩) l8 id).trans c80
        clear c80
        have c80 := d
        clear d
        have d := (hq.cell (p := ⟨g8, 1, none⟩) l8 id).trans c81
        clear c81
        have c81 := d
        clear d
        clear l7
        have l7 := cell_lt c70
        clear l8
        have l8 := cell_lt c80
        clear hq Hmb110
        go_wp2_with fail
        refine (named_ok _ (Ht.out.low Hmb111.out)).mono ?_
        rintro e y ⟨rfl, hq⟩
        have hz := Hmb111.out.trans hq (fun _ _ h => h)
        clear hq
        go_wp2_with fail
        go_ret
        exact ⟨rfl, hz⟩
    · have hd1 : decide ((b : Int) ≥ (ip : Int)) = true := by simp; omega
      have hd2 : (ip : Int) ≤ (b : Int) := by omega
      have hd4 : ip ≤ b := by omega
      have hd3 : decide ((b : Int) ≤ (la : Int)) = false := by simp; omega
      have hd5 : ¬ (b : Int) ≤ (la : Int) := by omega
      go_wp2_with fail
      refine (K3.out _).mono ?_
      rintro e va20 ⟨rfl, hq⟩
      have Hma20 := Lib.hid (Hm0.out.trans hq (fun _ _ h => h))
      have d := (hq.cell (p := ⟨g7, 0, none⟩) l7 id).trans c70
      clear c70
      have c70 := d
      clear d
      have d := (hq.cell (p := ⟨g7, 1, none⟩) l7 id).trans c71
      clear c71
      have c71 := d
      clear d
      have d := (hq.cell (p := ⟨g8, 0, none⟩) l8 id).trans c80
      clear c80
      have c80 := d
      clear d
      have d := (hq.cell (p := ⟨g8, 1, none⟩) l8 id).trans c81
      clear c81
      have c81 := d
      clear d
      clear l7
      have l7 := cell_lt c70
      clear l8
      have l8 := cell_lt c80
      clear hq Hm0
      go_wp2_with fail
      refine (K4.out _).mono ?_
      rintro e va21 ⟨rfl, hq⟩
      have Hma21 := Lib.hid (Hma20.out.trans hq (fun _ _ h => h))
      have d := (hq.cell (p := ⟨g7, 0, none⟩) l7 id).trans c70
      clear c70
      have c70 := d
      clear d
      have d := (hq.cell (p := ⟨g7, 1, none⟩) l7 id).trans c71
      clear c71
      have c71 := d
      clear d
      have d := (hq.cell (p := ⟨g8, 0, none⟩) l8 id).trans c80
      clear c80
      have c80 := d
      clear d
      have d := (hq.cell (p := ⟨g8, 1, none⟩) l8 id).trans c81
      clear c81
      have c81 := d
      clear d
      clear l7
      have l7 := cell_lt c70
      clear l8
      have l8 := cell_lt c80
      clear hq Hma20
      go_wp2_with fail
      refine (K5.out _).mono ?_
      rintro e va22 ⟨rfl, hq⟩
      have Hma22 := Lib.hid (Hma21.out.trans hq (fun _ _ h => h))
      have d := (hq.cell (p := ⟨g7, 0, none⟩) l7 id).trans c70
      clear c70
      have c70 := d
      clear d
      have d := (hq.cell (p := ⟨g7, 1, none⟩) l7 id).trans c71
      clear c71
      have c71 := d
      clear d
      have d := (hq.cell (p := ⟨g8, 0, none⟩) l8 id).trans c80
      clear c80
      have c80 := d
      clear d
      have d := (hq.cell (p := ⟨g8, 1, none⟩) l8 id).trans c81
      clear c81
      have c81 := d
      clear d
      clear l7
      have l7 := cell_lt c70
      clear l8
      have l8 := cell_lt c80
      clear hq Hma21
      go_wp2_with fail
      refine (K6.out _).mono ?_
      rintro e va23 ⟨rfl, hq⟩
      have Hma23 := Lib.hid (Hma22.out.trans hq (fun _ _ h => h))
      have d := (hq.cell (p := ⟨g7, 0, none⟩) l7 id).trans c70
      clear c70
      have c70 := d
      clear d
      have d := (hq.cell (p := ⟨g7, 1, none⟩) l7 id).trans c71
      clear c71
      have c71 := d
      clear d
      have d := (hq.cell (p := ⟨g8, 0, none⟩) l8 id).trans c80
      clear c80
      have c80 := d
      clear d
      have d := (hq.cell (p := ⟨g8, 1, none⟩) l8 id).trans c81
      clear c81
      have c81 := d
      clear d
      clear l7
      have l7 := cell_lt c70
      clear l8
      have l8 := cell_lt c80
      clear hq Hma22
      go_wp2_with fail
      refine (K7.out _).mono ?_
      rintro e va24 ⟨rfl, hq⟩
      have Hma24 := Lib.hid (Hma23.out.trans hq (fun _ _ h => h))
      have d := (hq.cell (p := ⟨g7, 0, none⟩) l7 id).trans c70
      clear c70
      have c70 := d
      clear d
      have d := (hq.cell (p := ⟨g7, 1, none⟩) l7 id).trans c71
      clear c71
      have c71 := d
      clear d
      have d := (hq.cell (p := ⟨g8, 0, none⟩) l8 id).trans c80
      clear c80
      have c80 := d
      clear d
      have d := (hq.cell (p := ⟨g8, 1, none⟩) l8 id).trans c81
      clear c81
      have c81 := d
      clear d
      clear l7
      have l7 := cell_lt c70
      clear l8
      have l8 := cell_lt c80
      clear hq Hma23
      go_wp2_with fail
      refine (K8.out _).mono ?_
      rintro e va25 ⟨rfl, hq⟩
      have Hma25 := Lib.hid (Hma24.out.trans hq (fun _ _ h => h))
      have d := (hq.cell (p := ⟨g7, 0, none⟩) l7 id).trans c70
      clear c70
      have c70 := d
      clear d
      have d := (hq.cell (p := ⟨g7, 1, none⟩) l7 id).trans c71
      clear c71
      have c71 := d
      clear d
      have d := (hq.cell (p := ⟨g8, 0, none⟩) l8 id).trans c80
      clear c80
      have c80 := d
      clear d
      have d := (hq.cell (p := ⟨g8, 1, none⟩) l8 id).trans c81
      clear c81
      have c81 := d
      clear d
      clear l7
      have l7 := cell_lt c70
      clear l8
      have l8 := cell_lt c80
      clear hq Hma24
      rcases inn with _ | _
      · go_wp2_with fail
        refine (named_ok _ (Ht.out.low Hma25.out)).mono ?_
        rintro e y ⟨rfl, hq⟩
        have hz := Hma25.out.trans hq (fun _ _ h => h)
        clear hq
        go_wp2_with fail
        go_ret
        exact ⟨rfl, hz⟩
      · go_wp2_with fail
        refine (K2.out _).mono ?_
        rintro e vb210 ⟨rfl, hq⟩
        have Hmb210 := Lib.hid (Hma25.out.trans hq (fun _ _ h => h))
        have d := (hq.cell (p := ⟨g7, 0, none⟩) l7 id).trans c70
        clear c70
        have c70 := d
        clear d
        have d := (hq.cell (p := ⟨g7, 1, none⟩) l7 id).trans c71
        clear c71
        have c71 := d
        clear d
        have d := (hq.cell (p := ⟨g8, 0, none⟩) l8 id).trans c80
        clear c80
        have c80 := d
        clear d
        have d := (hq.cell (p := ⟨g8, 1, none⟩) l8 id).trans c81
        clear c81
        have c81 := d
        clear d
        clear l7
        have l7 := cell_lt c70
        clear l8
        have l8 := cell_lt c80
        clear hq Hma25
        go_wp2_with fail
        refine (named_ok _ (Ht.out.low Hmb210.out)).mono ?_
        rintro e y ⟨rfl, hq⟩
        have hz := Hmb210.out.trans hq (fun _ _ h => h)
        clear hq
        go_wp2_with fail
        go_ret
        exact ⟨rfl, hz⟩

end Go.Proofs.YtgfmeincfeelmaaDoor
