/- Chapter 18, EntriesAmong: the library's symMerge, whole, and its stable sort of at most 40. -/
import Derived.Test.YtaiimkcmgiceeaaDoorAmU
import Derived.LoopN
namespace Go.Proofs.YtaiimkcmgiceeaaDoor
set_option linter.unusedVariables false
set_option linter.unusedSimpArgs false
open Go.RowKit Go.Lib Go.Sort Go.Shelf
variable {α : Type} [Inhabited α]
def symPa (cf : α → α → Int) (d : Array α) (a : Nat) : Nat → Bool := fun h => decide (cf d[h]! d[a]! < 0)
def symPb (cf : α → α → Int) (d : Array α) (m : Nat) : Nat → Bool := fun h => !decide (cf d[m]! d[h]! < 0)
def symPc (cf : α → α → Int) (d : Array α) (n : Nat) : Nat → Bool := fun h => !decide (cf d[n - 1 - h]! d[h]! < 0)
/-- symMerge, of an array. -/
def symM (cf : α → α → Int) : Nat → Array α → Nat → Nat → Nat → Array α
  | 0, d, _, _, _ => d
  | f + 1, d, a, m, b =>
    if m = a + 1 then mvUp a (bs (symPa cf d a) (b - m) m b - 1 - a) d
    else if b = m + 1 then mvDown m (m - bs (symPb cf d m) (m - a) a m) d
    else symR m ((a + b) / 2) ((a + b) / 2 + m) b
      (if (a + b) / 2 < m then bs (symPc cf d ((a + b) / 2 + m)) ((a + b) / 2 - ((a + b) / 2 + m - b)) ((a + b) / 2 + m - b) ((a + b) / 2) else bs (symPc cf d ((a + b) / 2 + m)) (m - a) a m) a (symM cf f) d
theorem size_symM (cf : α → α → Int) : ∀ (f : Nat) (d : Array α) (a m b : Nat), (symM cf f d a m b).size = d.size
  | 0, _, _, _, _ => rfl
  | f + 1, d, a, m, b => by
    have ih := size_symM cf f
    rw [symM]
    split
    · exact size_mvUp _ _ _
    · split
      · exact size_mvDown _ _ _
      · unfold symR
        simp only []
        repeat' split
        all_goals simp [ih, size_rotL]
theorem sym_ok {P : Program} {k : Nat} (L : SrtL P k) (enc : α → List Value) (cf : α → α → Int) (g : Nat) (cb : Array Value) (blk off cap : Nat) (d0 : Array α) (w0 : World) (eg : ∀ args w, (callFunc g args).run P w = .ok (.enter g args) w) (hcmp : CmpLays P g cb enc k cf blk off d0.size w0) (R : RowK enc k w0 blk off d0) (hsz : d0.size < 2305843009213693952) :
    ∀ (f a m b : Nat) (d : Array α) (w : World), b - a ≤ f → d.size = d0.size → SWK enc k w0 blk off d w → a < m → m < b → b ≤ d0.size →
      Calls P 56 #[.slice (some ⟨blk, off, none⟩) d0.size cap, .int .i64 a, .int .i64 m, .int .i64 b, .func (.func g) #[] cb] w fun e w' => e = .returned (.tuple #[]) ∧ SWK enc k w0 blk off (symM cf f d a m b) w'
  | 0, a, m, b, _, _, hf, _, _, h1, h2, _ => by omega
  | f + 1, a, m, b, d, w, hf, hs, S, h1, h2, h3 => by
    rw [symM]
    by_cases c1 : m = a + 1
    · rw [if_pos c1, ← hs]
      exact sym_a L enc cf g cb blk off cap a m b d0 d w0 w eg hcmp R hs.symm S h1 h2 (by omega) (by omega) c1
    · rw [if_neg c1]
      by_cases c2 : b = m + 1
      · rw [if_pos c2, ← hs]
        exact sym_b L enc cf g cb blk off cap a m b d0 d w0 w eg hcmp R hs.symm S h1 h2 (by omega) (by omega) c1 c2
      · rw [if_neg c2]
        have hrec : ∀ (x y z : Nat) (dk : Array α) (W : World), dk.size = d.size → SWK enc k w0 blk off dk W → x < y → y < z → z ≤ b → z - x < b - a →
            Calls P 56 #[.slice (some ⟨blk, off, none⟩) d.size cap, .int .i64 x, .int .i64 y, .int .i64 z, .func (.func g) #[] cb] W fun e w' => e = .returned (.tuple #[]) ∧ SWK enc k w0 blk off (symM cf f dk x y z) w' := fun x y z dk W hk hS hx hy hz hl => by
          rw [hs]
          exact sym_ok L enc cf g cb blk off cap d0 w0 eg hcmp R hsz f x y z dk W (by omega) (by omega) hS hx hy (by omega)
        rw [← hs]
        by_cases c3 : (a + b) / 2 < m
        · rw [if_pos c3]
          exact sym_c1 L enc cf g cb blk off cap a m b d0 d w0 w eg hcmp R hs.symm S h1 h2 (by omega) (by omega) c1 c2 _ _ rfl rfl c3 (symM cf f) (fun dk x y z => size_symM cf f dk x y z) hrec
        · rw [if_neg c3]
          exact sym_c0 L enc cf g cb blk off cap a m b d0 d w0 w eg hcmp R hs.symm S h1 h2 (by omega) (by omega) c1 c2 _ _ rfl rfl c3 (symM cf f) (fun dk x y z => size_symM cf f dk x y z) hrec
/-- insertionSort, from a world of the sort's. -/
theorem ins_ok {P : Program} {k : Nat} (L : SrtL P k) (enc : α → List Value) (cf : α → α → Int) (g : Nat) (cb : Array Value) (blk off cap a b : Nat) (d0 d : Array α) (w0 w : World) (eg : ∀ args w, (callFunc g args).run P w = .ok (.enter g args) w) (hcmp : CmpLays P g cb enc k cf blk off d0.size w0) (R : RowK enc k w0 blk off d0) (hO : SWO (ltOf cf)) (hs : d.size = d0.size) (S : SWK enc k w0 blk off d w)
    (hab : a ≤ b) (hb : b ≤ d0.size) (hsz : d0.size < 2305843009213693952) :
    Calls P 55 #[.slice (some ⟨blk, off, none⟩) d0.size cap, .int .i64 a, .int .i64 b, .func (.func g) #[] cb] w fun e w' => e = .returned (.tuple #[]) ∧ SWK enc k w0 blk off (Sort.insertionSort (ltOf cf) d a b) w' := by
  have hC : CmpLays P g cb enc k cf blk off d.size w := fun m os dk hdk x y => by
    obtain ⟨n2, os2, e2⟩ := S.on R.hblk m dk os hdk
    rw [e2]
    exact hcmp n2 os2 dk (by omega) x y
  have h := AnyQ.insertionSortCmpFunc L.n20 k L.aE L.zE enc R.hk R.h1 cf g cb blk off cap a b d w eg hC (S.holds R.hblk R.hH hs) (S.lt R.hblk) hab (by omega) (by omega)
  rw [hs] at h
  refine h.mono ?_
  rintro e w' ⟨he, n, os, rfl⟩
  exact ⟨he, S.on R.hblk n _ os ((insertionSort_holds hO d a b hab (by omega)).1.1)⟩
/-- The stable sort of at most 40. -/
def stabM (cf : α → α → Int) (d : Array α) : Array α :=
  if d.size ≤ 20 then Sort.insertionSort (ltOf cf) d 0 d.size
  else symM cf d.size (Sort.insertionSort (ltOf cf) (Sort.insertionSort (ltOf cf) d 0 20) 20 d.size) 0 20 d.size
theorem ins_nil (lt : α → α → Bool) (d : Array α) (a : Nat) : Sort.insertionSort lt d a a = d := by
  unfold Sort.insertionSort
  exact insOuter_stop _ _ _ _ _ (by omega)
set_option maxHeartbeats 64000000 in
set_option maxRecDepth 1000000 in
theorem stab_0 {P : Program} {k : Nat} (L : SrtL P k) (enc : α → List Value) (cf : α → α → Int) (g : Nat) (cb : Array Value) (blk off cap : Nat) (d : Array α) (w : World) (eg : ∀ args w, (callFunc g args).run P w = .ok (.enter g args) w) (hcmp : CmpLays P g cb enc k cf blk off d.size w) (R : RowK enc k w blk off d) (hO : SWO (ltOf cf)) (hl : d.size < 20) :
    Calls P 44 #[.slice (some ⟨blk, off, none⟩) d.size cap, .int .i64 d.size, .func (.func g) #[] cb] w fun e w' => e = .returned (.tuple #[]) ∧ SWK enc k w blk off (stabM cf d) w' := by
  have mixed := L.mixed; have t0 := L.t0; have a0 := L.a0; have z0 := L.z0; have v0 := L.v0; have t3 := L.t3; have a3 := L.a3; have z3 := L.z3; have v3 := L.v3; have t4 := L.t4; have a4 := L.a4; have z4 := L.z4; have v4 := L.v4; have t5 := L.t5; have a5 := L.a5; have z5 := L.z5; have t22 := L.t22; have a22 := L.a22; have z22 := L.z22; have v22 := L.v22; have t25 := L.t25; have a25 := L.a25; have z25 := L.z25; have v25 := L.v25; have aE := L.aE; have zE := L.zE
  have u22 := run_underlying L.t22; have u3 := run_underlying L.t3; have u4 := run_underlying L.t4; have u5 := run_underlying L.t5
  have ei : ∀ args w, (callFunc 55 args).run P w = .ok (.enter 55 args) w := L.fin.enters rfl
  have ey : ∀ args w, (callFunc 56 args).run P w = .ok (.enter 56 args) w := enters_of L.fsy (by kernel_rfl) rfl
  have KI := Lib.hid (fun (a b : Nat) (dk : Array α) (W : World) (h : dk.size = d.size) (S : SWK enc k w blk off dk W) (ha : a ≤ b) (hb : b ≤ d.size) => ins_ok L enc cf g cb blk off cap a b d dk w W eg hcmp R hO h S ha hb (by omega))
  have KY := Lib.hid (fun (a m b : Nat) (dk : Array α) (W : World) (h : dk.size = d.size) (S : SWK enc k w blk off dk W) (h0 : b = d.size) (h1 : a < m) (h2 : m < b) => sym_ok L enc cf g cb blk off cap d w eg hcmp R (by omega) d.size a m b dk W (by omega) h S h1 h2 (by omega))
  have HS := Lib.hid (fun (dk : Array α) (a b : Nat) (h1 : a ≤ b) (h2 : b ≤ dk.size) => (insertionSort_holds hO dk a b h1 h2).1.1)
  have S0 : Aside (SWK enc k w blk off d w) := SWK.start R.hH
  have HL := Lib.hid hl
  have FG := L.fst
  have l20 : ¬ (20 : Int) ≤ (d.size : Int) := by omega
  have l21 : ¬ (20 : Int) < (d.size : Int) := by omega
  clear hcmp hO hl
  go_enter FG, Tryd.ntmps44
  go_wp2
  refine wp_loop_rounds 1 ?_
  rw [rounds_succ]
  go_wp2_with fail
  have hl := HL.out
  refine (KI.out 0 d.size (d) _ (rfl) S0.out (by omega) (by omega)).mono ?_
  rintro e wS1 ⟨rfl, S2'⟩
  have S1 : Aside _ := S2'
  have HZS1 := Lib.hid ((HS.out (d) 0 d.size (by omega) (by omega)).trans (rfl))
  clear S2' S0 hl
  go_wp2
  refine wp_loop_rounds 1 ?_
  rw [rounds_succ]
  go_wp2_with fail
  go_end0
  exact ⟨rfl, by have h := S1.out; have hl := HL.out; unfold stabM; rw [if_pos (by omega)]; exact h⟩
set_option maxHeartbeats 64000000 in
set_option maxRecDepth 1000000 in
theorem stab_1 {P : Program} {k : Nat} (L : SrtL P k) (enc : α → List Value) (cf : α → α → Int) (g : Nat) (cb : Array Value) (blk off cap : Nat) (d : Array α) (w : World) (eg : ∀ args w, (callFunc g args).run P w = .ok (.enter g args) w) (hcmp : CmpLays P g cb enc k cf blk off d.size w) (R : RowK enc k w blk off d) (hO : SWO (ltOf cf)) (hl : d.size = 20) :
    Calls P 44 #[.slice (some ⟨blk, off, none⟩) d.size cap, .int .i64 d.size, .func (.func g) #[] cb] w fun e w' => e = .returned (.tuple #[]) ∧ SWK enc k w blk off (stabM cf d) w' := by
  have mixed := L.mixed; have t0 := L.t0; have a0 := L.a0; have z0 := L.z0; have v0 := L.v0; have t3 := L.t3; have a3 := L.a3; have z3 := L.z3; have v3 := L.v3; have t4 := L.t4; have a4 := L.a4; have z4 := L.z4; have v4 := L.v4; have t5 := L.t5; have a5 := L.a5; have z5 := L.z5; have t22 := L.t22; have a22 := L.a22; have z22 := L.z22; have v22 := L.v22; have t25 := L.t25; have a25 := L.a25; have z25 := L.z25; have v25 := L.v25; have aE := L.aE; have zE := L.zE
  have u22 := run_underlying L.t22; have u3 := run_underlying L.t3; have u4 := run_underlying L.t4; have u5 := run_underlying L.t5
  have ei : ∀ args w, (callFunc 55 args).run P w = .ok (.enter 55 args) w := L.fin.enters rfl
  have ey : ∀ args w, (callFunc 56 args).run P w = .ok (.enter 56 args) w := enters_of L.fsy (by kernel_rfl) rfl
  have KI := Lib.hid (fun (a b : Nat) (dk : Array α) (W : World) (h : dk.size = d.size) (S : SWK enc k w blk off dk W) (ha : a ≤ b) (hb : b ≤ d.size) => ins_ok L enc cf g cb blk off cap a b d dk w W eg hcmp R hO h S ha hb (by omega))
  have KY := Lib.hid (fun (a m b : Nat) (dk : Array α) (W : World) (h : dk.size = d.size) (S : SWK enc k w blk off dk W) (h0 : b = d.size) (h1 : a < m) (h2 : m < b) => sym_ok L enc cf g cb blk off cap d w eg hcmp R (by omega) d.size a m b dk W (by omega) h S h1 h2 (by omega))
  have HS := Lib.hid (fun (dk : Array α) (a b : Nat) (h1 : a ≤ b) (h2 : b ≤ dk.size) => (insertionSort_holds hO dk a b h1 h2).1.1)
  have S0 : Aside (SWK enc k w blk off d w) := SWK.start R.hH
  have HL := Lib.hid hl
  have FG := L.fst
  have l20 : (20 : Int) ≤ (d.size : Int) := by omega
  have l22 : ¬ (40 : Int) ≤ (d.size : Int) := by omega
  have l21 : ¬ (20 : Int) < (d.size : Int) := by omega
  clear hcmp hO hl
  go_enter FG, Tryd.ntmps44
  go_wp2
  refine wp_loop_rounds 2 ?_
  rw [rounds_succ]
  go_wp2_with fail
  have hl := HL.out
  refine (KI.out 0 20 (d) _ (rfl) S0.out (by omega) (by omega)).mono ?_
  rintro e wS1 ⟨rfl, S2'⟩
  have S1 : Aside _ := S2'
  have HZS1 := Lib.hid ((HS.out (d) 0 20 (by omega) (by omega)).trans (rfl))
  clear S2' S0 hl
  go_wp2_with fail
  (try go_big_unhide)
  rw [rounds_succ]
  go_wp2_with fail
  have hl := HL.out
  refine (KI.out 20 d.size (Sort.insertionSort (ltOf cf) (d) 0 20) _ HZS1.out S1.out (by omega) (by omega)).mono ?_
  rintro e wS2 ⟨rfl, S2'⟩
  have S2 : Aside _ := S2'
  have HZS2 := Lib.hid ((HS.out (Sort.insertionSort (ltOf cf) (d) 0 20) 20 d.size (by omega) (by have := HZS1.out; omega)).trans HZS1.out)
  clear S2' S1 hl
  go_wp2
  refine wp_loop_rounds 1 ?_
  rw [rounds_succ]
  go_wp2_with fail
  go_end0
  exact ⟨rfl, by have h := S2.out; have hl := HL.out; unfold stabM; rw [if_pos (by omega), hl]; rw [hl, ins_nil] at h; exact h⟩
set_option maxHeartbeats 64000000 in
set_option maxRecDepth 1000000 in
theorem stab_2 {P : Program} {k : Nat} (L : SrtL P k) (enc : α → List Value) (cf : α → α → Int) (g : Nat) (cb : Array Value) (blk off cap : Nat) (d : Array α) (w : World) (eg : ∀ args w, (callFunc g args).run P w = .ok (.enter g args) w) (hcmp : CmpLays P g cb enc k cf blk off d.size w) (R : RowK enc k w blk off d) (hO : SWO (ltOf cf)) (hl : 20 < d.size ∧ d.size < 40) :
    Calls P 44 #[.slice (some ⟨blk, off, none⟩) d.size cap, .int .i64 d.size, .func (.func g) #[] cb] w fun e w' => e = .returned (.tuple #[]) ∧ SWK enc k w blk off (stabM cf d) w' := by
  have mixed := L.mixed; have t0 := L.t0; have a0 := L.a0; have z0 := L.z0; have v0 := L.v0; have t3 := L.t3; have a3 := L.a3; have z3 := L.z3; have v3 := L.v3; have t4 := L.t4; have a4 := L.a4; have z4 := L.z4; have v4 := L.v4; have t5 := L.t5; have a5 := L.a5; have z5 := L.z5; have t22 := L.t22; have a22 := L.a22; have z22 := L.z22; have v22 := L.v22; have t25 := L.t25; have a25 := L.a25; have z25 := L.z25; have v25 := L.v25; have aE := L.aE; have zE := L.zE
  have u22 := run_underlying L.t22; have u3 := run_underlying L.t3; have u4 := run_underlying L.t4; have u5 := run_underlying L.t5
  have ei : ∀ args w, (callFunc 55 args).run P w = .ok (.enter 55 args) w := L.fin.enters rfl
  have ey : ∀ args w, (callFunc 56 args).run P w = .ok (.enter 56 args) w := enters_of L.fsy (by kernel_rfl) rfl
  have KI := Lib.hid (fun (a b : Nat) (dk : Array α) (W : World) (h : dk.size = d.size) (S : SWK enc k w blk off dk W) (ha : a ≤ b) (hb : b ≤ d.size) => ins_ok L enc cf g cb blk off cap a b d dk w W eg hcmp R hO h S ha hb (by omega))
  have KY := Lib.hid (fun (a m b : Nat) (dk : Array α) (W : World) (h : dk.size = d.size) (S : SWK enc k w blk off dk W) (h0 : b = d.size) (h1 : a < m) (h2 : m < b) => sym_ok L enc cf g cb blk off cap d w eg hcmp R (by omega) d.size a m b dk W (by omega) h S h1 h2 (by omega))
  have HS := Lib.hid (fun (dk : Array α) (a b : Nat) (h1 : a ≤ b) (h2 : b ≤ dk.size) => (insertionSort_holds hO dk a b h1 h2).1.1)
  have S0 : Aside (SWK enc k w blk off d w) := SWK.start R.hH
  have HL := Lib.hid hl
  have FG := L.fst
  have l20 : (20 : Int) ≤ (d.size : Int) := by omega
  have l22 : ¬ (40 : Int) ≤ (d.size : Int) := by omega
  have l21 : (20 : Int) < (d.size : Int) := by omega
  have l23 : ¬ (40 : Int) < (d.size : Int) := by omega
  clear hcmp hO hl
  go_enter FG, Tryd.ntmps44
  go_wp2
  refine wp_loop_rounds 2 ?_
  rw [rounds_succ]
  go_wp2_with fail
  have hl := HL.out
  refine (KI.out 0 20 (d) _ (rfl) S0.out (by omega) (by omega)).mono ?_
  rintro e wS1 ⟨rfl, S2'⟩
  have S1 : Aside _ := S2'
  have HZS1 := Lib.hid ((HS.out (d) 0 20 (by omega) (by omega)).trans (rfl))
  clear S2' S0 hl
  go_wp2_with fail
  (try go_big_unhide)
  rw [rounds_succ]
  go_wp2_with fail
  have hl := HL.out
  refine (KI.out 20 d.size (Sort.insertionSort (ltOf cf) (d) 0 20) _ HZS1.out S1.out (by omega) (by omega)).mono ?_
  rintro e wS2 ⟨rfl, S2'⟩
  have S2 : Aside _ := S2'
  have HZS2 := Lib.hid ((HS.out (Sort.insertionSort (ltOf cf) (d) 0 20) 20 d.size (by omega) (by have := HZS1.out; omega)).trans HZS1.out)
  clear S2' S1 hl
  go_wp2
  refine wp_loop_rounds 2 ?_
  rw [rounds_succ]
  go_wp2_with fail
  refine wp_loop_rounds 1 ?_
  rw [rounds_succ]
  go_wp2_with fail
  have hl := HL.out
  refine (KY.out 0 20 d.size (Sort.insertionSort (ltOf cf) (Sort.insertionSort (ltOf cf) (d) 0 20) 20 d.size) _ HZS2.out S2.out (by omega) (by omega) (by omega)).mono ?_
  rintro e wS3 ⟨rfl, S2'⟩
  have S3 : Aside _ := S2'
  clear S2' S2 hl
  go_wp2_with fail
  (try go_big_unhide)
  rw [rounds_succ]
  go_wp2_with fail
  go_end0
  exact ⟨rfl, by have h := S3.out; have hl := HL.out; unfold stabM; rw [if_neg (by omega)]; exact h⟩
set_option maxHeartbeats 64000000 in
set_option maxRecDepth 1000000 in
theorem stab_3 {P : Program} {k : Nat} (L : SrtL P k) (enc : α → List Value) (cf : α → α → Int) (g : Nat) (cb : Array Value) (blk off cap : Nat) (d : Array α) (w : World) (eg : ∀ args w, (callFunc g args).run P w = .ok (.enter g args) w) (hcmp : CmpLays P g cb enc k cf blk off d.size w) (R : RowK enc k w blk off d) (hO : SWO (ltOf cf)) (hl : d.size = 40) :
    Calls P 44 #[.slice (some ⟨blk, off, none⟩) d.size cap, .int .i64 d.size, .func (.func g) #[] cb] w fun e w' => e = .returned (.tuple #[]) ∧ SWK enc k w blk off (stabM cf d) w' := by
  have mixed := L.mixed; have t0 := L.t0; have a0 := L.a0; have z0 := L.z0; have v0 := L.v0; have t3 := L.t3; have a3 := L.a3; have z3 := L.z3; have v3 := L.v3; have t4 := L.t4; have a4 := L.a4; have z4 := L.z4; have v4 := L.v4; have t5 := L.t5; have a5 := L.a5; have z5 := L.z5; have t22 := L.t22; have a22 := L.a22; have z22 := L.z22; have v22 := L.v22; have t25 := L.t25; have a25 := L.a25; have z25 := L.z25; have v25 := L.v25; have aE := L.aE; have zE := L.zE
  have u22 := run_underlying L.t22; have u3 := run_underlying L.t3; have u4 := run_underlying L.t4; have u5 := run_underlying L.t5
  have ei : ∀ args w, (callFunc 55 args).run P w = .ok (.enter 55 args) w := L.fin.enters rfl
  have ey : ∀ args w, (callFunc 56 args).run P w = .ok (.enter 56 args) w := enters_of L.fsy (by kernel_rfl) rfl
  have KI := Lib.hid (fun (a b : Nat) (dk : Array α) (W : World) (h : dk.size = d.size) (S : SWK enc k w blk off dk W) (ha : a ≤ b) (hb : b ≤ d.size) => ins_ok L enc cf g cb blk off cap a b d dk w W eg hcmp R hO h S ha hb (by omega))
  have KY := Lib.hid (fun (a m b : Nat) (dk : Array α) (W : World) (h : dk.size = d.size) (S : SWK enc k w blk off dk W) (h0 : b = d.size) (h1 : a < m) (h2 : m < b) => sym_ok L enc cf g cb blk off cap d w eg hcmp R (by omega) d.size a m b dk W (by omega) h S h1 h2 (by omega))
  have HS := Lib.hid (fun (dk : Array α) (a b : Nat) (h1 : a ≤ b) (h2 : b ≤ dk.size) => (insertionSort_holds hO dk a b h1 h2).1.1)
  have S0 : Aside (SWK enc k w blk off d w) := SWK.start R.hH
  have HL := Lib.hid hl
  have FG := L.fst
  have l20 : (20 : Int) ≤ (d.size : Int) := by omega
  have l22 : (40 : Int) ≤ (d.size : Int) := by omega
  have l21 : (20 : Int) < (d.size : Int) := by omega
  have l23 : ¬ (40 : Int) < (d.size : Int) := by omega
  have l24 : ¬ (60 : Int) ≤ (d.size : Int) := by omega
  have l25 : ¬ (80 : Int) ≤ (d.size : Int) := by omega
  have l26 : ¬ (60 : Int) < (d.size : Int) := by omega
  clear hcmp hO hl
  go_enter FG, Tryd.ntmps44
  go_wp2
  refine wp_loop_rounds 3 ?_
  rw [rounds_succ]
  go_wp2_with fail
  have hl := HL.out
  refine (KI.out 0 20 (d) _ (rfl) S0.out (by omega) (by omega)).mono ?_
  rintro e wS1 ⟨rfl, S2'⟩
  have S1 : Aside _ := S2'
  have HZS1 := Lib.hid ((HS.out (d) 0 20 (by omega) (by omega)).trans (rfl))
  clear S2' S0 hl
  go_wp2_with fail
  (try go_big_unhide)
  rw [rounds_succ]
  go_wp2_with fail
  have hl := HL.out
  refine (KI.out 20 40 (Sort.insertionSort (ltOf cf) (d) 0 20) _ HZS1.out S1.out (by omega) (by omega)).mono ?_
  rintro e wS2 ⟨rfl, S2'⟩
  have S2 : Aside _ := S2'
  have HZS2 := Lib.hid ((HS.out (Sort.insertionSort (ltOf cf) (d) 0 20) 20 40 (by omega) (by have := HZS1.out; omega)).trans HZS1.out)
  clear S2' S1 hl
  go_wp2_with fail
  (try go_big_unhide)
  rw [rounds_succ]
  go_wp2_with fail
  have hl := HL.out
  refine (KI.out 40 d.size (Sort.insertionSort (ltOf cf) (Sort.insertionSort (ltOf cf) (d) 0 20) 20 40) _ HZS2.out S2.out (by omega) (by omega)).mono ?_
  rintro e wS3 ⟨rfl, S2'⟩
  have S3 : Aside _ := S2'
  have HZS3 := Lib.hid ((HS.out (Sort.insertionSort (ltOf cf) (Sort.insertionSort (ltOf cf) (d) 0 20) 20 40) 40 d.size (by omega) (by have := HZS2.out; omega)).trans HZS2.out)
  clear S2' S2 hl
  go_wp2
  refine wp_loop_rounds 2 ?_
  rw [rounds_succ]
  go_wp2_with fail
  refine wp_loop_rounds 2 ?_
  rw [rounds_succ]
  go_wp2_with fail
  have hl := HL.out
  refine (KY.out 0 20 40 (Sort.insertionSort (ltOf cf) (Sort.insertionSort (ltOf cf) (Sort.insertionSort (ltOf cf) (d) 0 20) 20 40) 40 d.size) _ HZS3.out S3.out (by omega) (by omega) (by omega)).mono ?_
  rintro e wS4 ⟨rfl, S2'⟩
  have S4 : Aside _ := S2'
  clear S2' S3 hl
  go_wp2_with fail
  (try go_big_unhide)
  rw [rounds_succ]
  go_wp2_with fail
  (try go_big_unhide)
  rw [rounds_succ]
  go_wp2_with fail
  go_end0
  exact ⟨rfl, by have h := S4.out; have hl := HL.out; unfold stabM; rw [if_neg (by omega), hl]; rw [hl, ins_nil] at h; exact h⟩
end Go.Proofs.YtaiimkcmgiceeaaDoor
