/- ChainsPlay: the walk. -/
import Derived.Test.YtmhjdjndckeepaaPlF
import Derived.Test.YtmhjdjndckeepaaPlH
import Derived.Deep.DeepMust
import Derived.Test.YtmhjdjndckeepaaTake
namespace Go.Proofs.Ytmhjdjndckeepaa
set_option linter.unusedVariables false
set_option linter.unusedSimpArgs false
open Go.RowKit

/-- The first loop's state. -/
structure P1 (w0 : World) (n bc bf bm rb gb k : Nat) (σ : List Row) (w : World) : Prop where
  pl : Pl w0 bc bf bm σ rb gb (lks σ) w
  n : σ.length = n
  cnt : σ.flatten.length ≤ k

theorem infoInt : ∃ i, Try.prog.info? 3 = some i ∧ i.zero = some (.int .i64 0) ∧ i.size = 1 ∧ i.bytes ≤ 65536 := by
  have h : ((Try.prog.info? 3).map fun i => (i.zero, i.size, decide (i.bytes ≤ 65536))) = some (some (.int .i64 0), 1, true) := by kernel_rfl
  rcases hi : Try.prog.info? 3 with _ | i
  · simp [hi] at h
  · simp [hi] at h
    exact ⟨i, rfl, h.1, h.2.1, h.2.2⟩

set_option maxRecDepth 100000 in
set_option maxHeartbeats 16000000 in
theorem walk_ChainsPlay (w : World) (v0 v1 : Value) (g0 : Good Try.prog w 3 v0) (g1 : Good Try.prog w 45 v1) :
    Calls Try.prog 4 #[v0, v1] w (Ret1 (.bool true) w) := by
  obtain ⟨n, rfl, wn⟩ := good_int Try.underlying3 g0
  obtain ⟨a, len, cap, rfl, hlen, z, hz, hc⟩ := acts_open g1
  unfold maxLen at hlen
  have Hz := Lib.hid hz
  have Hc := Lib.hid hc
  have Wn := Lib.hid wn
  clear hz hc g0 g1 wn
  go_enter Try.func4, Try.ntmps4
  by_cases h80 : 80 < len
  · go_wp2_with fail
    refine (joined_any _).mono ?_
    rintro e w1 ⟨rfl, hp⟩
    go_wp2_with fail
    go_ret
    exact ⟨rfl, hp⟩
  · by_cases hn : n < 1 ∨ 64 < n
    · have Hn := Lib.hid hn
      clear hn
      go_wp2_with fail
      refine (new_bad n Hn.out _).mono ?_
      rintro e w1 ⟨rfl, rfl⟩
      go_wp2_with fail
      refine (rf_new_bad n Hn.out _).mono ?_
      rintro e w1 ⟨rfl, rfl⟩
      go_wp2_with fail
      refine (joined_any _).mono ?_
      rintro e w1 ⟨rfl, hp⟩
      go_wp2_with fail
      go_ret
      exact ⟨rfl, hp⟩
    · obtain ⟨m, rfl⟩ : ∃ m : Nat, n = m := ⟨n.toNat, by omega⟩
      have h1 : 1 ≤ m := by omega
      have h64 : m ≤ 64 := by omega
      clear hn
      go_wp2_with fail
      refine (new_ok m h1 h64 _).mono ?_
      rintro e w1 ⟨bc, bf, bm, rfl, lbc, lbf, lbm, hrep, hp1⟩
      have Hrep := Lib.hid hrep
      have Hp1 := Lib.hid hp1
      clear hrep hp1
      go_wp2_with fail
      refine (rf_new m h1 h64 _).mono ?_
      rintro e w2 ⟨rb, gb, rfl, hrf⟩
      have hst : P1 w m bc bf bm rb gb 0 (List.replicate m []) w2 := ⟨Pl.start Hrep.out lbc lbf lbm Hp1.out hrf, by simp, by simp⟩
      clear Hrep Hp1 hrf lbc lbf lbm
      have Hst := Lib.hid hst
      clear hst
      go_wp2_with fail
      go_loopg [9] (len + 1) (fun g i wx => ∃ (k : Nat) (σ : List Row), k ≤ len ∧ g = len + 1 - k ∧ i = .int .i64 k ∧ P1 w m bc bf bm rb gb k σ wx)
      case atStart => exact ⟨0, _, Nat.zero_le _, rfl, rfl, Hst.out⟩
      case round =>
        obtain ⟨k, σ, hk, hg, rfl, hinv⟩ := hrel
        have Hg := Lib.hid hg
        clear hg Hst
        by_cases hlt : k < len
        · obtain ⟨sb, so, rfl, hact⟩ := Hc.out (by omega)
          have hat := hact k hlt
          have hxo := Hz.out k hlt
          have lsb : sb < w.heap.size := cell_lt hat.c0
          have hat2 : ActAt wr sb (so + k * 8) (z k) := hat.keep hinv.pl.st.fp (by omega)
          obtain ⟨d0, d1, d2, d3, d4, d5, d6, d7⟩ := hat2
          have Hat := Lib.hid hat
          have Hxo := Lib.hid hxo
          have hln := hinv.n
          have hcn := hinv.cnt
          have hpl := hinv.pl
          have Hpl := Lib.hid hpl
          have Hln := Lib.hid hln
          clear hat hxo hact hinv hpl hln Hc
          generalize z k = x at *
          obtain ⟨kd, ch, sl, bk, at_, r0, r1, r2⟩ := x
          dsimp only at d0 d1 d2 d3 d4 d5 d6 d7
          go_wp2_with fail
          refine (act_do Hpl.out ⟨kd, ch, sl, bk, at_, r0, r1, r2⟩ Hxo.out (by have := Hln.out; omega) (by have := Hln.out; omega) (by omega)).mono ?_
          rintro e w3 ⟨rfl, τ, hpl3, hlen3, hcnt3⟩
          have hat3 := Hat.out.keep hpl3.st.fp (by omega)
          clear d0 d1 d2 d3 d4 d5 d6 d7
          obtain ⟨d0, d1, d2, d3, d4, d5, d6, d7⟩ := hat3
          dsimp only at d0 d1 d2 d3 d4 d5 d6 d7
          have Hl := Lib.hid (AAct.link_ok _ Hxo.out)
          have hlink := fun W => act_link _ Hxo.out W
          have Hlink := Lib.hid hlink
          have Hpl3 := Lib.hid hpl3
          have h1t : τ.length = m := hlen3.trans Hln.out
          have Ht := Lib.hid h1t
          clear hpl3 hlink hlen3 h1t Hat Hxo Hpl Hln
          generalize AAct.link ⟨kd, ch, sl, bk, at_, r0, r1, r2⟩ = l at *
          go_wp2_with fail
          refine (Hlink.out _).mono ?_
          rintro e w4 ⟨rfl, hp4⟩
          have hpl4 := Hpl3.out.low hp4
          have Hpl4 := Lib.hid hpl4
          clear hp4 hpl4 Hpl3 Hlink d0 d1 d2 d3 d4 d5 d6 d7
          by_cases hno : ∀ x, x ∈ τ.flatten → x.2 ≠ l
          · have Hno := Lib.hid hno
            clear hno
            obtain ⟨l0, l1, l2⟩ := l
            unfold lv
            go_wp2_with fail
            refine (next_stale (Hpl4.out.low (by (repeat (first | exact Fp.refl _ _ | refine Fp.drew ?_ | refine Fp.drewN ?_ _ | refine Fp.alloc ?_ _ | (refine Fp.setCell ?_ (Or.inl (by simp)) _) | (refine Fp.setCell ?_ (Or.inl (by simp; omega)) _) | refine Fp.trans ?_ (by assumption) (fun _ _ h => h))))).st.rep Hl.out Hno.out).mono ?_
            rintro e w5 ⟨rfl, hp5⟩
            have hpl5 := (Hpl4.out.low ((Fp.refl _ _).alloc _)).low hp5
            have Hpl5 := Lib.hid hpl5
            obtain ⟨b0, b1, b2⟩ := box_cells hp5
            have lb5 : w4.heap.size < w5.heap.size := cell_lt b0
            clear hp5 hpl5 Hpl4
            generalize w4.heap.size = g5 at *
            simp only [lv, lk0]
            go_wp2_with fail
            refine (pl_rnext_no (Hpl5.out.low (by (repeat (first | exact Fp.refl _ _ | refine Fp.drew ?_ | refine Fp.drewN ?_ _ | refine Fp.alloc ?_ _ | (refine Fp.setCell ?_ (Or.inl (by simp)) _) | (refine Fp.setCell ?_ (Or.inl (by simp; omega)) _) | refine Fp.trans ?_ (by assumption) (fun _ _ h => h))))) (by have := Ht.out; omega) (by omega) Hno.out).mono ?_
            rintro e w6 ⟨rfl, hp6⟩
            have hpl6 := (Hpl5.out.low ((Fp.refl _ _).alloc _)).low hp6
            have Hpl6 := Lib.hid hpl6
            obtain ⟨c0, c1, c2⟩ := box_cells hp6
            have lc6 : w5.heap.size < w6.heap.size := cell_lt c0
            have hp56 : NoW w5 w6 := ((Fp.refl _ _).alloc _).trans hp6 (fun _ _ h => h)
            have b60 := (hp56.cell (p := ⟨g5, 0, none⟩) lb5 id).trans b0
            have b61 := (hp56.cell (p := ⟨g5, 1, none⟩) lb5 id).trans b1
            have b62 := (hp56.cell (p := ⟨g5, 2, none⟩) lb5 id).trans b2
            have lb6 : g5 < w6.heap.size := cell_lt b60
            clear hp6 hp56 hpl6 Hpl5 b0 b1 b2 lb5
            generalize w5.heap.size = g6 at *
            simp only [lv, lk0]
            go_wp2_with fail
            refine (where_none (Hpl6.out.low (by (repeat (first | exact Fp.refl _ _ | refine Fp.drew ?_ | refine Fp.drewN ?_ _ | refine Fp.alloc ?_ _ | (refine Fp.setCell ?_ (Or.inl (by simp)) _) | (refine Fp.setCell ?_ (Or.inl (by simp; omega)) _) | refine Fp.trans ?_ (by assumption) (fun _ _ h => h))))).st.rep Hl.out Hno.out).mono ?_
            rintro e w7 ⟨rfl, hp7⟩
            have hpl7 := (Hpl6.out.low ((Fp.refl _ _).alloc _)).low hp7
            have Hpl7 := Lib.hid hpl7
            obtain ⟨e0, e1, e2⟩ := box_cells hp7
            have le7 : w6.heap.size < w7.heap.size := cell_lt e0
            have hp67 : NoW w6 w7 := ((Fp.refl _ _).alloc _).trans hp7 (fun _ _ h => h)
            have b70 := (hp67.cell (p := ⟨g5, 0, none⟩) lb6 id).trans b60
            have b71 := (hp67.cell (p := ⟨g5, 1, none⟩) lb6 id).trans b61
            have b72 := (hp67.cell (p := ⟨g5, 2, none⟩) lb6 id).trans b62
            have c70 := (hp67.cell (p := ⟨g6, 0, none⟩) lc6 id).trans c0
            have c71 := (hp67.cell (p := ⟨g6, 1, none⟩) lc6 id).trans c1
            have c72 := (hp67.cell (p := ⟨g6, 2, none⟩) lc6 id).trans c2
            have lc7 : g6 < w7.heap.size := cell_lt c70
            clear hp7 hp67 hpl7 Hpl6 b60 b61 b62 lb6 c0 c1 c2 lc6
            generalize w6.heap.size = g7 at *
            go_wp2_with fail
            refine (pl_rwhere_no Hpl7.out (by have := Ht.out; omega) (by omega) Hno.out).mono ?_
            rintro e w8 ⟨rfl, hp8⟩
            have hpl8 := Hpl7.out.low hp8
            have Hpl8 := Lib.hid hpl8
            have c80 := (hp8.cell (p := ⟨g6, 0, none⟩) lc7 id).trans c70
            have c81 := (hp8.cell (p := ⟨g6, 1, none⟩) lc7 id).trans c71
            have c82 := (hp8.cell (p := ⟨g6, 2, none⟩) lc7 id).trans c72
            have e80 := (hp8.cell (p := ⟨g7, 0, none⟩) le7 id).trans e0
            have e81 := (hp8.cell (p := ⟨g7, 1, none⟩) le7 id).trans e1
            have e82 := (hp8.cell (p := ⟨g7, 2, none⟩) le7 id).trans e2
            clear hp8 hpl8 Hpl7 b70 b71 b72 c70 c71 c72 lc7 e0 e1 e2 le7
            go_wp2_with fail
            go_roundg (len - k)
            case measure => have := Hg.out; omega
            case rel => exact ⟨k + 1, τ, by omega, by omega, by go_num, Hpl8.out, Ht.out, by omega⟩
          · obtain ⟨i, r1, r2, x, hi, rfl⟩ := stands hno
            have Hi := Lib.hid hi
            clear hi hno
            obtain ⟨xb, l0, l1, l2⟩ := x
            unfold lv
            go_wp2_with fail
            refine (next_ok (Hpl4.out.low (by (repeat (first | exact Fp.refl _ _ | refine Fp.drew ?_ | refine Fp.drewN ?_ _ | refine Fp.alloc ?_ _ | (refine Fp.setCell ?_ (Or.inl (by simp)) _) | (refine Fp.setCell ?_ (Or.inl (by simp; omega)) _) | refine Fp.trans ?_ (by assumption) (fun _ _ h => h))))).st.rep Hi.out).mono ?_
            rintro e w5 ⟨rfl, hp5⟩
            have hpl5 := (Hpl4.out.low ((Fp.refl _ _).alloc _)).low hp5
            have Hpl5 := Lib.hid hpl5
            obtain ⟨b0, b1, b2⟩ := box_cells hp5
            have lb5 : w4.heap.size < w5.heap.size := cell_lt b0
            clear hp5 hpl5 Hpl4
            generalize w4.heap.size = g5 at *
            obtain ⟨⟨⟨y0, y1, y2⟩, yb⟩, hy⟩ : ∃ y, y = hdl r2 := ⟨_, rfl⟩
            rw [← hy]
            have Hy := Lib.hid hy
            clear hy
            simp only [lv]
            go_wp2_with fail
            refine (pl_rnext_yes (Hpl5.out.low (by (repeat (first | exact Fp.refl _ _ | refine Fp.drew ?_ | refine Fp.drewN ?_ _ | refine Fp.alloc ?_ _ | (refine Fp.setCell ?_ (Or.inl (by simp)) _) | (refine Fp.setCell ?_ (Or.inl (by simp; omega)) _) | refine Fp.trans ?_ (by assumption) (fun _ _ h => h))))) (by have := Ht.out; omega) (by omega) Hi.out).mono ?_
            rintro e w6 ⟨rfl, hp6⟩
            have hpl6 := (Hpl5.out.low ((Fp.refl _ _).alloc _)).low hp6
            have Hpl6 := Lib.hid hpl6
            obtain ⟨c0, c1, c2⟩ := box_cells hp6
            have lc6 : w5.heap.size < w6.heap.size := cell_lt c0
            have hp56 : NoW w5 w6 := ((Fp.refl _ _).alloc _).trans hp6 (fun _ _ h => h)
            have b60 := (hp56.cell (p := ⟨g5, 0, none⟩) lb5 id).trans b0
            have b61 := (hp56.cell (p := ⟨g5, 1, none⟩) lb5 id).trans b1
            have b62 := (hp56.cell (p := ⟨g5, 2, none⟩) lb5 id).trans b2
            have lb6 : g5 < w6.heap.size := cell_lt b60
            clear hp6 hp56 hpl6 Hpl5 b0 b1 b2 lb5
            generalize w5.heap.size = g6 at *
            rw [← Hy.out]
            simp only [lv]
            go_wp2_with fail
            refine (where_ok (x := (xb, l0, l1, l2)) (Hpl6.out.low (by (repeat (first | exact Fp.refl _ _ | refine Fp.drew ?_ | refine Fp.drewN ?_ _ | refine Fp.alloc ?_ _ | (refine Fp.setCell ?_ (Or.inl (by simp)) _) | (refine Fp.setCell ?_ (Or.inl (by simp; omega)) _) | refine Fp.trans ?_ (by assumption) (fun _ _ h => h))))).st.rep Hi.out (by simp)).mono ?_
            rintro e w7 ⟨rfl, hp7⟩
            have hpl7 := (Hpl6.out.low ((Fp.refl _ _).alloc _)).low hp7
            have Hpl7 := Lib.hid hpl7
            obtain ⟨e0, e1, e2⟩ := box_cells hp7
            have le7 : w6.heap.size < w7.heap.size := cell_lt e0
            have hp67 : NoW w6 w7 := ((Fp.refl _ _).alloc _).trans hp7 (fun _ _ h => h)
            have b70 := (hp67.cell (p := ⟨g5, 0, none⟩) lb6 id).trans b60
            have b71 := (hp67.cell (p := ⟨g5, 1, none⟩) lb6 id).trans b61
            have b72 := (hp67.cell (p := ⟨g5, 2, none⟩) lb6 id).trans b62
            have c70 := (hp67.cell (p := ⟨g6, 0, none⟩) lc6 id).trans c0
            have c71 := (hp67.cell (p := ⟨g6, 1, none⟩) lc6 id).trans c1
            have c72 := (hp67.cell (p := ⟨g6, 2, none⟩) lc6 id).trans c2
            have lc7 : g6 < w7.heap.size := cell_lt c70
            clear hp7 hp67 hpl7 Hpl6 b60 b61 b62 lb6 c0 c1 c2 lc6
            generalize w6.heap.size = g7 at *
            go_wp2_with fail
            refine (pl_rwhere_yes Hpl7.out (by have := Ht.out; omega) (by omega) Hi.out).mono ?_
            rintro e w8 ⟨rfl, hp8⟩
            have hpl8 := Hpl7.out.low hp8
            have Hpl8 := Lib.hid hpl8
            have c80 := (hp8.cell (p := ⟨g6, 0, none⟩) lc7 id).trans c70
            have c81 := (hp8.cell (p := ⟨g6, 1, none⟩) lc7 id).trans c71
            have c82 := (hp8.cell (p := ⟨g6, 2, none⟩) lc7 id).trans c72
            have e80 := (hp8.cell (p := ⟨g7, 0, none⟩) le7 id).trans e0
            have e81 := (hp8.cell (p := ⟨g7, 1, none⟩) le7 id).trans e1
            have e82 := (hp8.cell (p := ⟨g7, 2, none⟩) le7 id).trans e2
            clear hp8 hpl8 Hpl7 b70 b71 b72 c70 c71 c72 lc7 e0 e1 e2 le7
            go_wp2_with fail
            go_roundg (len - k)
            case measure => have := Hg.out; omega
            case rel => exact ⟨k + 1, τ, by omega, by omega, by go_num, Hpl8.out, Ht.out, by omega⟩
        · obtain rfl : k = len := by omega
          have hln := hinv.n
          have hcn := hinv.cnt
          subst hln
          have d0 := hinv.pl.rf.c0
          rw [lks_len] at d0
          have hq : P2 w bc bf bm σ rb gb 0 (.slice none 0 0) (.slice none 0 0) wr :=
            ⟨hinv.pl, by simpa [downs] using World.ownsRow_nil wr w.heap.size _ 1, by simpa [downs, ERow] using World.ownsRow_nil wr w.heap.size _ 3, by simp [Value.ownBlock], by simp [Value.ownBlock], by simp [Value.ownBlock]⟩
          have hfl : ∀ x, (chainOf σ x).length ≤ 80 := fun x => Nat.le_trans (chainOf_len σ x) (by omega)
          have Hfl := Lib.hid hfl
          have HQ := Lib.hid hq
          clear hq hinv hfl Hg Hc Hz
          go_wp2_with fail
          go_loopg [21, 22, 23, 24] (σ.length + 3) (fun g c al li i wx => ∃ (j : Nat) (al' li' : Value), al' = al ∧ li' = li ∧ j ≤ σ.length + 2 ∧ g = σ.length + 3 - j ∧ i = .int .i64 ((σ.length : Int) - j) ∧ c = .int .i64 ((downs σ.length j).flatMap (chainOf σ)).length ∧ P2 w bc bf bm σ rb gb j al' li' wx)
          case atStart => exact ⟨0, _, _, rfl, rfl, by omega, by omega, by simp, by simp [downs], HQ.out⟩
          case round =>
            obtain ⟨j, al, li, rfl, rfl, hj, hg2, rfl, rfl, hq⟩ := hrel
            have Hg2 := Lib.hid hg2
            clear HQ hg2 d0
            have HQ := Lib.hid hq
            clear hq
            have hcl : ((downs σ.length j).flatMap (chainOf σ)).length ≤ 80 * 66 := by
              have h1 := flat_le (chainOf σ) 80 Hfl.out (downs σ.length j)
              rw [downs_len] at h1
              have h2 := Nat.mul_le_mul_left 80 (show j ≤ 66 by omega)
              omega
            by_cases hlt : j < σ.length + 2
            · obtain ⟨x, hx⟩ : ∃ x : Int, x = (σ.length : Int) - j := ⟨_, rfl⟩
              have hx1 : -1 ≤ x := by omega
              have hx2 : x ≤ 64 := by omega
              rw [← hx]
              have Hx := Lib.hid hx
              have hx3 : (σ.length : Int) - ((j + 1 : Nat) : Int) = x - 1 := by omega
              have Hx3 := Lib.hid hx3
              clear hx hx3
              obtain ⟨cc, hcc⟩ : ∃ cc, cc = ((downs σ.length j).flatMap (chainOf σ)).length := ⟨_, rfl⟩
              rw [← hcc]
              rw [← hcc] at hcl
              have Hcc := Lib.hid hcc
              clear hcc
              go_wp2_with fail
              refine (first_any HQ.out.pl.st.rep x).mono ?_
              rintro e w3 ⟨rfl, hp3⟩
              have hq3 := HQ.out.low hp3
              have HQ3 := Lib.hid hq3
              have hxl := Hfl.out x
              obtain ⟨ch, hch⟩ : ∃ ch, ch = chainOf σ x := ⟨_, rfl⟩
              rw [← hch] at hxl ⊢
              have Hch := Lib.hid hch
              clear hp3 hq3 HQ hch
              obtain ⟨⟨⟨y0, y1, y2⟩, yb⟩, hy⟩ : ∃ y, y = fo ch := ⟨_, rfl⟩
              rw [← hy]
              have Hy := Lib.hid hy
              clear hy
              simp only [lv]
              go_wp2_with fail
              refine (pl_rlist (HQ3.out.low ((Fp.refl _ _).alloc _)).pl (by omega) x).mono ?_
              rintro e w4 ⟨rfl, v4, rfl, hv4, ho4⟩
              rw [← Hch.out] at hv4
              obtain ⟨a4, cap4, rfl, hcap4, hrd4⟩ := hv4.read
              have hq4 := HQ3.out.low ((Fp.refl _ _).alloc (.cells #[.int .i64 y0, .int .u32 y1, .bool y2] 33))
              have hb4 := heap_alloc_new w3 (.cells #[.int .i64 y0, .int .u32 y1, .bool y2] 33)
              generalize w3.alloc (.cells #[.int .i64 y0, .int .u32 y1, .bool y2] 33) = w4 at *
              generalize w3.heap.size = g4 at *
              have Hv4 := Lib.hid hv4
              have Hrd4 := Lib.hid hrd4
              have HQ4 := Lib.hid hq4
              have Hb4 := Lib.hid hb4
              have Ho4 := Lib.hid ho4
              clear hv4 hq4 HQ3 hrd4 hb4 ho4
              go_upto_region 27 with (fail)
              go_cut [179] (fun s179 wx => s179 = .bool false ∧ NoW w4 wx)
              case first =>
                cases ch with
                | nil =>
                  have hy := Hy.out
                  simp only [fo, lk0, Prod.mk.injEq] at hy
                  obtain ⟨⟨rfl, rfl, rfl⟩, rfl⟩ := hy
                  simp only [List.length_nil] at *
                  clear Hrd4 Hb4 Hy
                  refine wp_region_held_drew (S := fun wx => NoW w4 wx) (by kernel_rfl) (Fp.drew (Fp.refl _ _)) (fun hHeld => ?_)
                  (refine take_at 0 (some 157) rfl rfl (by kernel_rfl) (by kernel_rfl) (by kernel_rfl) (fun _ _ _ h => h) (v := ?_) (by kernel_rfl) ?_ (by assumption) ?_; rotate_left; (focus (intro wS hSw; skip; go_simp; try with_reducible rfl)); (try simp only [Act.put, List.setIfInBounds_toArray, List.set_cons_zero, List.set_cons_succ]))
                  (refine take_at 1 (some 158) rfl rfl (by kernel_rfl) (by kernel_rfl) (by kernel_rfl) (fun _ _ _ h => h) (v := ?_) (by kernel_rfl) ?_ (by assumption) ?_; rotate_left; (focus (intro wS hSw; skip; go_simp; try with_reducible rfl)); (try simp only [Act.put, List.setIfInBounds_toArray, List.set_cons_zero, List.set_cons_succ]))
                  (refine take_at 3 (some 160) rfl rfl (by kernel_rfl) (by kernel_rfl) (by kernel_rfl) (fun _ _ _ h => h) (v := ?_) (by kernel_rfl) ?_ (by assumption) ?_; rotate_left; (focus (intro wS hSw; skip; go_simp; try with_reducible rfl)); (try simp only [Act.put, List.setIfInBounds_toArray, List.set_cons_zero, List.set_cons_succ]))
                  refine wpAnyH_ready (rs := [2]) (by kernel_rfl) (by simp) ?_
                  refine AllReadyH.cons rfl (fun K hK => ?_) AllReadyH.nil
                  go_simp
                  go_at_call 15
                  refine (list_any (HQ4.out.low hHeld).pl.st.rep x (by rw [← Hch.out]; simp)).mono ?_
                  rintro e w5 ⟨v5, rfl, hv5, hp5, _⟩
                  rw [← Hch.out] at hv5
                  have Hv5 := Lib.hid hv5
                  have hn5 : NoW w4 w5 := Fp.trans hHeld hp5 (fun _ _ h => h)
                  clear hv5 hp5 hHeld
                  refine hK.out _ _ hn5 (fun hHeld => ?_)
                  clear hK K
                  try simp only [Act.put, List.setIfInBounds_toArray, List.set_cons_zero, List.set_cons_succ]
                  refine wpAnyH_ready (rs := [4]) (by kernel_rfl) (by simp) ?_
                  refine AllReadyH.cons rfl (fun K hK => ?_) AllReadyH.nil
                  go_simp
                  go_at_call 22
                  refine (same_ok Hv5.out (ERow.keep Hv4.out hn5 (fun _ _ => id)) (by simp)).mono ?_
                  rintro e w6 ⟨rfl, hp6⟩
                  have hn6 : NoW w4 w6 := Fp.trans hn5 hp6 (fun _ _ h => h)
                  clear hp6 hHeld hn5
                  refine hK.out _ _ hn6 (fun hHeld => ?_)
                  clear hK K
                  try simp only [Act.put, List.setIfInBounds_toArray, List.set_cons_zero, List.set_cons_succ]
                  (refine take_at 5 (some 162) rfl rfl (by kernel_rfl) (by kernel_rfl) (by kernel_rfl) (fun _ _ _ h => h) (v := ?_) (by kernel_rfl) ?_ (by assumption) ?_; rotate_left; (focus (intro wS hSw; skip; go_simp; try with_reducible rfl)); (try simp only [Act.put, List.setIfInBounds_toArray, List.set_cons_zero, List.set_cons_succ]))
                  (refine take_at 6 (some 163) rfl rfl (by kernel_rfl) (by kernel_rfl) (by kernel_rfl) (fun _ _ _ h => h) (v := ?_) (by kernel_rfl) ?_ (by assumption) ?_; rotate_left; (focus (intro wS hSw; skip; go_simp; try with_reducible rfl)); (try simp only [Act.put, List.setIfInBounds_toArray, List.set_cons_zero, List.set_cons_succ]))
                  (refine take_at 7 (some 164) rfl rfl (by kernel_rfl) (by kernel_rfl) (by kernel_rfl) (fun _ _ _ h => h) (v := ?_) (by kernel_rfl) ?_ (by assumption) ?_; rotate_left; (focus (intro wS hSw; skip; go_simp; try with_reducible rfl)); (try simp only [Act.put, List.setIfInBounds_toArray, List.set_cons_zero, List.set_cons_succ]))
                  (refine take_at 8 (some 165) rfl rfl (by kernel_rfl) (by kernel_rfl) (by kernel_rfl) (fun _ _ _ h => h) (v := ?_) (by kernel_rfl) ?_ (by assumption) ?_; rotate_left; (focus (intro wS hSw; skip; go_simp; try with_reducible rfl)); (try simp only [Act.put, List.setIfInBounds_toArray, List.set_cons_zero, List.set_cons_succ]))
                  (refine take_at 9 (some 166) rfl rfl (by kernel_rfl) (by kernel_rfl) (by kernel_rfl) (fun _ _ _ h => h) (v := ?_) (by kernel_rfl) ?_ (by assumption) ?_; rotate_left; (focus (intro wS hSw; skip; go_simp; try with_reducible rfl)); (try simp only [Act.put, List.setIfInBounds_toArray, List.set_cons_zero, List.set_cons_succ]))
                  (refine take_at 10 (some 167) rfl rfl (by kernel_rfl) (by kernel_rfl) (by kernel_rfl) (fun _ _ _ h => h) (v := ?_) (by kernel_rfl) ?_ (by assumption) ?_; rotate_left; (focus (intro wS hSw; skip; go_simp; try with_reducible rfl)); (try simp only [Act.put, List.setIfInBounds_toArray, List.set_cons_zero, List.set_cons_succ]))
                  (refine take_at 11 (some 168) rfl rfl (by kernel_rfl) (by kernel_rfl) (by kernel_rfl) (fun _ _ _ h => h) (v := ?_) (by kernel_rfl) ?_ (by assumption) ?_; rotate_left; (focus (intro wS hSw; skip; go_simp; try with_reducible rfl)); (try simp only [Act.put, List.setIfInBounds_toArray, List.set_cons_zero, List.set_cons_succ]))
                  (refine take_at 12 (some 169) rfl rfl (by kernel_rfl) (by kernel_rfl) (by kernel_rfl) (fun _ _ _ h => h) (v := ?_) (by kernel_rfl) ?_ (by assumption) ?_; rotate_left; (focus (intro wS hSw; skip; go_simp; try with_reducible rfl)); (try simp only [Act.put, List.setIfInBounds_toArray, List.set_cons_zero, List.set_cons_succ]))
                  (refine take_at 13 (some 170) rfl rfl (by kernel_rfl) (by kernel_rfl) (by kernel_rfl) (fun _ _ _ h => h) (v := ?_) (by kernel_rfl) ?_ (by assumption) ?_; rotate_left; (focus (intro wS hSw; skip; go_simp; try with_reducible rfl)); (try simp only [Act.put, List.setIfInBounds_toArray, List.set_cons_zero, List.set_cons_succ]))
                  (refine take_at 14 (some 171) rfl rfl (by kernel_rfl) (by kernel_rfl) (by kernel_rfl) (fun _ _ _ h => h) (v := ?_) (by kernel_rfl) ?_ (by assumption) ?_; rotate_left; (focus (intro wS hSw; skip; go_simp; try with_reducible rfl)); (try simp only [Act.put, List.setIfInBounds_toArray, List.set_cons_zero, List.set_cons_succ]))
                  (refine take_at 15 (some 172) rfl rfl (by kernel_rfl) (by kernel_rfl) (by kernel_rfl) (fun _ _ _ h => h) (v := ?_) (by kernel_rfl) ?_ (by assumption) ?_; rotate_left; (focus (intro wS hSw; skip; go_simp; try with_reducible rfl)); (try simp only [Act.put, List.setIfInBounds_toArray, List.set_cons_zero, List.set_cons_succ]))
                  (refine drop_at 16 (some 173) rfl rfl (by kernel_rfl) (by kernel_rfl) (by kernel_rfl) (fun _ _ _ h => h) (by kernel_rfl) (by assumption) ?_; (try simp only [Act.put, List.setIfInBounds_toArray, List.set_cons_zero, List.set_cons_succ]))
                  (refine drop_at 17 (some 174) rfl rfl (by kernel_rfl) (by kernel_rfl) (by kernel_rfl) (fun _ _ _ h => h) (by kernel_rfl) (by assumption) ?_; (try simp only [Act.put, List.setIfInBounds_toArray, List.set_cons_zero, List.set_cons_succ]))
                  (refine drop_at 18 (some 175) rfl rfl (by kernel_rfl) (by kernel_rfl) (by kernel_rfl) (fun _ _ _ h => h) (by kernel_rfl) (by assumption) ?_; (try simp only [Act.put, List.setIfInBounds_toArray, List.set_cons_zero, List.set_cons_succ]))
                  (refine drop_at 19 (some 176) rfl rfl (by kernel_rfl) (by kernel_rfl) (by kernel_rfl) (fun _ _ _ h => h) (by kernel_rfl) (by assumption) ?_; (try simp only [Act.put, List.setIfInBounds_toArray, List.set_cons_zero, List.set_cons_succ]))
                  (refine drop_at 20 (some 177) rfl rfl (by kernel_rfl) (by kernel_rfl) (by kernel_rfl) (fun _ _ _ h => h) (by kernel_rfl) (by assumption) ?_; (try simp only [Act.put, List.setIfInBounds_toArray, List.set_cons_zero, List.set_cons_succ]))
                  (refine take_at 21 (some 178) rfl rfl (by kernel_rfl) (by kernel_rfl) (by kernel_rfl) (fun _ _ _ h => h) (v := ?_) (by kernel_rfl) ?_ (by assumption) ?_; rotate_left; (focus (intro wS hSw; skip; go_simp; try with_reducible rfl)); (try simp only [Act.put, List.setIfInBounds_toArray, List.set_cons_zero, List.set_cons_succ]))
                  (refine take_at 22 (some 179) rfl rfl (by kernel_rfl) (by kernel_rfl) (by kernel_rfl) (fun _ _ _ h => h) (v := ?_) (by kernel_rfl) ?_ (by assumption) ?_; rotate_left; (focus (intro wS hSw; skip; go_simp; try with_reducible rfl)); (try simp only [Act.put, List.setIfInBounds_toArray, List.set_cons_zero, List.set_cons_succ]))
                  refine wpAnyH_done (by kernel_rfl) ?_ _
                  go_wp2_with fail
                  go_meet
                  exact ⟨rfl, hn6⟩
                | cons l ls =>
                  obtain ⟨l0, l1, l2⟩ := l
                  have hy := Hy.out
                  simp only [fo, Prod.mk.injEq] at hy
                  obtain ⟨⟨rfl, rfl, rfl⟩, rfl⟩ := hy
                  obtain ⟨g, rfl, lg, c0, c1, c2⟩ := Hrd4.out 0 (by simp)
                  simp only [Nat.zero_mul, Nat.zero_add, List.getElem_cons_zero] at c0 c1 c2
                  have b0 : w4.cell? ⟨g4, 0, none⟩ = some (.int .i64 y0) := by simp [World.cell?, Hb4.out]
                  have b1 : w4.cell? ⟨g4, 1, none⟩ = some (.int .u32 y1) := by simp [World.cell?, Hb4.out]
                  have b2 : w4.cell? ⟨g4, 2, none⟩ = some (.bool y2) := by simp [World.cell?, Hb4.out]
                  have lb : g4 < w4.heap.size := cell_lt b0
                  simp only [List.length_cons] at hxl hcap4 ⊢
                  have c0' := Lib.hid c0
                  have c1' := Lib.hid c1
                  have c2' := Lib.hid c2
                  have b0' := Lib.hid b0
                  have b1' := Lib.hid b1
                  have b2' := Lib.hid b2
                  clear Hrd4 Hb4 Hy c0 c1 c2 b0 b1 b2
                  refine wp_region_held_drew (S := fun wx => NoW w4 wx) (by kernel_rfl) (Fp.drew (Fp.refl _ _)) (fun hHeld => ?_)
                  (refine take_at 0 (some 157) rfl rfl (by kernel_rfl) (by kernel_rfl) (by kernel_rfl) (fun _ _ _ h => h) (v := ?_) (by kernel_rfl) ?_ (by assumption) ?_; rotate_left; (focus (intro wS hSw; skip; go_simp; try with_reducible rfl)); (try simp only [Act.put, List.setIfInBounds_toArray, List.set_cons_zero, List.set_cons_succ]))
                  (refine take_at 1 (some 158) rfl rfl (by kernel_rfl) (by kernel_rfl) (by kernel_rfl) (fun _ _ _ h => h) (v := ?_) (by kernel_rfl) ?_ (by assumption) ?_; rotate_left; (focus (intro wS hSw; skip; go_simp; try with_reducible rfl)); (try simp only [Act.put, List.setIfInBounds_toArray, List.set_cons_zero, List.set_cons_succ]))
                  (refine take_at 3 (some 160) rfl rfl (by kernel_rfl) (by kernel_rfl) (by kernel_rfl) (fun _ _ _ h => h) (v := ?_) (by kernel_rfl) ?_ (by assumption) ?_; rotate_left; (focus (intro wS hSw; skip; go_simp; try with_reducible rfl)); (try simp only [Act.put, List.setIfInBounds_toArray, List.set_cons_zero, List.set_cons_succ]))
                  refine wpAnyH_ready (rs := [2]) (by kernel_rfl) (by simp) ?_
                  refine AllReadyH.cons rfl (fun K hK => ?_) AllReadyH.nil
                  go_simp
                  go_at_call 15
                  refine (list_any (HQ4.out.low hHeld).pl.st.rep x (by rw [← Hch.out]; simp; omega)).mono ?_
                  rintro e w5 ⟨v5, rfl, hv5, hp5, _⟩
                  rw [← Hch.out] at hv5
                  have Hv5 := Lib.hid hv5
                  have hn5 : NoW w4 w5 := Fp.trans hHeld hp5 (fun _ _ h => h)
                  clear hv5 hp5 hHeld
                  refine hK.out _ _ hn5 (fun hHeld => ?_)
                  clear hK K
                  try simp only [Act.put, List.setIfInBounds_toArray, List.set_cons_zero, List.set_cons_succ]
                  refine wpAnyH_ready (rs := [4]) (by kernel_rfl) (by simp) ?_
                  refine AllReadyH.cons rfl (fun K hK => ?_) AllReadyH.nil
                  go_simp
                  go_at_call 22
                  refine (same_ok Hv5.out (ERow.keep Hv4.out hn5 (fun _ _ => id)) (by simp; omega)).mono ?_
                  rintro e w6 ⟨rfl, hp6⟩
                  have hn6 : NoW w4 w6 := Fp.trans hn5 hp6 (fun _ _ h => h)
                  clear hp6 hHeld hn5
                  refine hK.out _ _ hn6 (fun hHeld => ?_)
                  clear hK K
                  try simp only [Act.put, List.setIfInBounds_toArray, List.set_cons_zero, List.set_cons_succ]
                  (refine take_at 5 (some 162) rfl rfl (by kernel_rfl) (by kernel_rfl) (by kernel_rfl) (fun _ _ _ h => h) (v := ?_) (by kernel_rfl) ?_ (by assumption) ?_; rotate_left; (focus (intro wS hSw; skip; go_simp; try with_reducible rfl)); (try simp only [Act.put, List.setIfInBounds_toArray, List.set_cons_zero, List.set_cons_succ]))
                  (refine take_at 6 (some 163) rfl rfl (by kernel_rfl) (by kernel_rfl) (by kernel_rfl) (fun _ _ _ h => h) (v := ?_) (by kernel_rfl) ?_ (by assumption) ?_; rotate_left; (focus (intro wS hSw; skip; go_simp; try with_reducible rfl)); (try simp only [Act.put, List.setIfInBounds_toArray, List.set_cons_zero, List.set_cons_succ]))
                  (refine take_at 7 (some 164) rfl rfl (by kernel_rfl) (by kernel_rfl) (by kernel_rfl) (fun _ _ _ h => h) (v := ?_) (by kernel_rfl) ?_ (by assumption) ?_; rotate_left; (focus (intro wS hSw; skip; go_simp; try with_reducible rfl)); (try simp only [Act.put, List.setIfInBounds_toArray, List.set_cons_zero, List.set_cons_succ]))
                  (refine take_at 8 (some 165) rfl rfl (by kernel_rfl) (by kernel_rfl) (by kernel_rfl) (fun _ _ _ h => h) (v := ?_) (by kernel_rfl) ?_ (by assumption) ?_; rotate_left; (focus (intro wS hSw; skip; go_simp; try with_reducible rfl)); (try simp only [Act.put, List.setIfInBounds_toArray, List.set_cons_zero, List.set_cons_succ]))
                  (refine take_at 9 (some 166) rfl rfl (by kernel_rfl) (by kernel_rfl) (by kernel_rfl) (fun _ _ _ h => h) (v := ?_) (by kernel_rfl) ?_ (by assumption) ?_; rotate_left; (focus (intro wS hSw; skip; go_simp; try with_reducible rfl)); (try simp only [Act.put, List.setIfInBounds_toArray, List.set_cons_zero, List.set_cons_succ]))
                  (refine take_at 10 (some 167) rfl rfl (by kernel_rfl) (by kernel_rfl) (by kernel_rfl) (fun _ _ _ h => h) (v := ?_) (by kernel_rfl) ?_ (by assumption) ?_; rotate_left; (focus (intro wS hSw; skip; go_simp; try with_reducible rfl)); (try simp only [Act.put, List.setIfInBounds_toArray, List.set_cons_zero, List.set_cons_succ]))
                  (refine take_at 11 (some 168) rfl rfl (by kernel_rfl) (by kernel_rfl) (by kernel_rfl) (fun _ _ _ h => h) (v := ?_) (by kernel_rfl) ?_ (by assumption) ?_; rotate_left; (focus (intro wS hSw; skip; go_simp; try with_reducible rfl)); (try simp only [Act.put, List.setIfInBounds_toArray, List.set_cons_zero, List.set_cons_succ]))
                  (refine take_at 12 (some 169) rfl rfl (by kernel_rfl) (by kernel_rfl) (by kernel_rfl) (fun _ _ _ h => h) (v := ?_) (by kernel_rfl) ?_ (by assumption) ?_; rotate_left; (focus (intro wS hSw; skip; go_simp; try with_reducible rfl)); (try simp only [Act.put, List.setIfInBounds_toArray, List.set_cons_zero, List.set_cons_succ]))
                  (refine take_at 13 (some 170) rfl rfl (by kernel_rfl) (by kernel_rfl) (by kernel_rfl) (fun _ _ _ h => h) (v := ?_) (by kernel_rfl) ?_ (by assumption) ?_; rotate_left; (focus (intro wS hSw; skip; go_simp; try with_reducible rfl)); (try simp only [Act.put, List.setIfInBounds_toArray, List.set_cons_zero, List.set_cons_succ]))
                  (refine take_at 14 (some 171) rfl rfl (by kernel_rfl) (by kernel_rfl) (by kernel_rfl) (fun _ _ _ h => h) (v := ?_) (by kernel_rfl) ?_ (by assumption) ?_; rotate_left; (focus (intro wS hSw; skip; go_simp; try with_reducible rfl)); (try simp only [Act.put, List.setIfInBounds_toArray, List.set_cons_zero, List.set_cons_succ]))
                  (refine take_at 15 (some 172) rfl rfl (by kernel_rfl) (by kernel_rfl) (by kernel_rfl) (fun _ _ _ h => h) (v := ?_) (by kernel_rfl) ?_ (by assumption) ?_; rotate_left; (focus (intro wS hSw; skip; go_simp; try with_reducible rfl)); (try simp only [Act.put, List.setIfInBounds_toArray, List.set_cons_zero, List.set_cons_succ]))
                  (refine take_at 16 (some 173) rfl rfl (by kernel_rfl) (by kernel_rfl) (by kernel_rfl) (fun _ _ _ h => h) (v := ?_) (by kernel_rfl) ?_ (by assumption) ?_; rotate_left; (focus (intro wS hSw; have b60 := (hSw.cell (p := ⟨g4, 0, none⟩) lb id).trans b0'.out; have b61 := (hSw.cell (p := ⟨g4, 1, none⟩) lb id).trans b1'.out; have b62 := (hSw.cell (p := ⟨g4, 2, none⟩) lb id).trans b2'.out; go_simp; try with_reducible rfl)); (try simp only [Act.put, List.setIfInBounds_toArray, List.set_cons_zero, List.set_cons_succ]))
                  (refine take_at 17 (some 174) rfl rfl (by kernel_rfl) (by kernel_rfl) (by kernel_rfl) (fun _ _ _ h => h) (v := ?_) (by kernel_rfl) ?_ (by assumption) ?_; rotate_left; (focus (intro wS hSw; skip; go_simp; try with_reducible rfl)); (try simp only [Act.put, List.setIfInBounds_toArray, List.set_cons_zero, List.set_cons_succ]))
                  (refine take_at 18 (some 175) rfl rfl (by kernel_rfl) (by kernel_rfl) (by kernel_rfl) (fun _ _ _ h => h) (v := ?_) (by kernel_rfl) ?_ (by assumption) ?_; rotate_left; (focus (intro wS hSw; skip; go_simp; try with_reducible rfl)); (try simp only [Act.put, List.setIfInBounds_toArray, List.set_cons_zero, List.set_cons_succ]))
                  (refine take_at 19 (some 176) rfl rfl (by kernel_rfl) (by kernel_rfl) (by kernel_rfl) (fun _ _ _ h => h) (v := ?_) (by kernel_rfl) ?_ (by assumption) ?_; rotate_left; (focus (intro wS hSw; have c60 := (hSw.cell (p := ⟨g, 0, none⟩) lg id).trans c0'.out; have c61 := (hSw.cell (p := ⟨g, 1, none⟩) lg id).trans c1'.out; have c62 := (hSw.cell (p := ⟨g, 2, none⟩) lg id).trans c2'.out; go_simp; try with_reducible rfl)); (try simp only [Act.put, List.setIfInBounds_toArray, List.set_cons_zero, List.set_cons_succ]))
                  (refine take_at 20 (some 177) rfl rfl (by kernel_rfl) (by kernel_rfl) (by kernel_rfl) (fun _ _ _ h => h) (v := ?_) (by kernel_rfl) ?_ (by assumption) ?_; rotate_left; (focus (intro wS hSw; skip; go_simp; try with_reducible rfl)); (try simp only [Act.put, List.setIfInBounds_toArray, List.set_cons_zero, List.set_cons_succ]))
                  (refine take_at 21 (some 178) rfl rfl (by kernel_rfl) (by kernel_rfl) (by kernel_rfl) (fun _ _ _ h => h) (v := ?_) (by kernel_rfl) ?_ (by assumption) ?_; rotate_left; (focus (intro wS hSw; skip; go_simp; try with_reducible rfl)); (try simp only [Act.put, List.setIfInBounds_toArray, List.set_cons_zero, List.set_cons_succ]))
                  (refine take_at 22 (some 179) rfl rfl (by kernel_rfl) (by kernel_rfl) (by kernel_rfl) (fun _ _ _ h => h) (v := ?_) (by kernel_rfl) ?_ (by assumption) ?_; rotate_left; (focus (intro wS hSw; skip; go_simp; try with_reducible rfl)); (try simp only [Act.put, List.setIfInBounds_toArray, List.set_cons_zero, List.set_cons_succ]))
                  refine wpAnyH_done (by kernel_rfl) ?_ _
                  go_wp2_with fail
                  go_meet
                  exact ⟨rfl, hn6⟩
              case rest =>
                obtain ⟨rfl, hwc⟩ := hcut
                have hq5 := HQ4.out.low hwc
                have hv5 := Hv4.out.keep hwc (fun _ _ => id)
                have ho5 : ∀ g, (Value.slice a4 ch.length cap4).ownBlock = some g → rfOwn wc rb gb g := fun g e => rfOwn.back hq5.pl.rf (hwc.block _ HQ4.out.pl.rf.ltg id).symm (Ho4.out g e)
                have Ho5 := Lib.hid ho5
                have HQ5 := Lib.hid hq5
                have Hv5 := Lib.hid hv5
                have hsz := hq5.pl.st.fp.size
                have hal := hq5.oal
                have Hal := Lib.hid hal
                clear HQ4 Hv4 Hrd4 Hb4 Ho4 hwc hq5 hv5 hal Hy ho5
                go_wp2_with (at_builtin; go_must (refine wp_append1 rfl _ _ 58 rfl w.heap.size 3 (.int .i64 0) 1 Try.underlying58 infoInt rfl (by decide) al _ _ rfl (World.ownsRow.alloc Hal.out _) wc.heap.size [.int .i64 x] rfl rfl (heap_new _ _ _ rfl) ?_ ?_ ?_ ?_))
                · intro u hu; simp at hu; rw [hu]; rfl
                · rw [downs_len]; omega
                · simp; omega
                intro al2 w6 hown6 hgr6 _ hwh6
                have hq6 := HQ5.out.low ((Fp.refl _ _).alloc (.cells #[.int .i64 x] 3))
                obtain ⟨p6, al6, li6, aA6, aL6, ne6⟩ := hq6.num hgr6 (by simpa using hwh6) (by rw [← Hx.out]; simpa using hown6)
                have hv6 : ERow 53 w6 w.heap.size (.slice a4 ch.length cap4) ch := by
                  refine ownsRow_of_block (ERow.keep Hv5.out ((Fp.refl _ _).alloc _) (fun _ _ => id)) fun g e => hgr6.block g ?_ ?_
                  · have := HQ5.out.pl.rf.own_lt (Ho5.out g e); simp; omega
                  · exact fun e2 => (HQ5.out.aAl g e2.symm).2.2.2 (Ho5.out g e)
                have P6 := Lib.hid p6
                have Al6 := Lib.hid al6
                have Li6 := Lib.hid li6
                have AA6 := Lib.hid aA6
                have AL6 := Lib.hid aL6
                have Ne6 := Lib.hid ne6
                have Hv6 := Lib.hid hv6
                have hsz6 := p6.st.fp.size
                have hw1 : IntKind.i64.wrap (x - 1) = x - 1 := IntWalk.i64_in _ (by omega)
                clear hq6 p6 al6 li6 aA6 aL6 ne6 hv6 hown6 hgr6 hwh6 Hal HQ5 Hv5 Ho5
                go_wp2_with (at_builtin; go_must (refine wp_appendR rfl _ _ 59 rfl w.heap.size 53 (lv lk0) 3 Try.underlying59 infoRLink rfl (by decide) li _ _ rfl Li6.out (.slice a4 ch.length cap4) ch.length w.heap.size (ch.flatMap lc3) rfl Hv6.out (one_lc3 _) ?_ hsz6 ?_))
                · rw [← Hcc.out]; omega
                intro li2 w7 hown7 hgr7 _ hwh7
                have hq7 := P2.links P6.out Al6.out Li6.out AA6.out AL6.out Ne6.out (show ch = _ by rw [Hch.out, Hx.out]) hgr7 hwh7 (by rw [← List.length_flatMap] at hown7; exact hown7)
                have hcc2 : ((downs σ.length (j + 1)).flatMap (chainOf σ)).length = cc + ch.length := by
                  rw [downs_succ, List.flatMap_append, List.length_append, ← Hcc.out, ← Hx.out]; simp [← Hch.out]
                have HQ7 := Lib.hid hq7
                have Hcc2 := Lib.hid hcc2
                clear hq7 hcc2 hown7 hgr7 hwh7 P6 Al6 Li6 AA6 AL6 Ne6 Hv6
                go_wp2_with fail
                go_roundg (σ.length + 2 - j)
                case measure => have := Hg2.out; omega
                case rel => exact ⟨j + 1, _, _, rfl, rfl, by omega, by omega, by rw [Hx3.out], by rw [Hcc2.out]; go_num, HQ7.out⟩
            · obtain rfl : j = σ.length + 2 := by omega
              have hda := downs_all σ
              rw [hda] at hcl ⊢
              have c0 := HQ.out.pl.st.rep.c0
              have Hda := Lib.hid hda
              clear hda
              go_wp2_with fail
              refine (size_ptr bc _ _ _ _ c0).mono ?_
              rintro e w3 ⟨rfl, rfl⟩
              clear c0
              go_wp2_with fail
              refine (count_ok HQ.out.pl.st.rep).mono ?_
              rintro e w4 ⟨rfl, rfl⟩
              go_wp2_with fail
              refine (all_any (.pointer (some ⟨bc, 0, none⟩)) (chainOf σ) (fun W hW x => list_any (HQ.out.low hW).pl.st.rep x (Nat.le_trans (Hfl.out x) (by omega))) (downs σ.length (σ.length + 2)) al w.heap.size HQ.out.oal (by rw [downs_len]; omega) (fun x => Nat.le_trans (Hfl.out x) (by omega))).mono ?_
              rintro e w5 ⟨v5, rfl, hv5, hp5, _⟩
              have hq5 := HQ.out.low hp5
              have Hv5 := Lib.hid hv5
              have HQ5 := Lib.hid hq5
              clear hv5 hp5 hq5 HQ
              go_wp2_with fail
              refine (same_ok Hv5.out HQ5.out.oli (by rw [Hda.out]; omega)).mono ?_
              rintro e w6 ⟨rfl, hp6⟩
              have HQ6 := Lib.hid (HQ5.out.low hp6)
              clear hp6 HQ5 Hv5
              go_wp2_with fail
              refine (joined_any _).mono ?_
              rintro e w7 ⟨rfl, hp7⟩
              have HQ7 := Lib.hid (HQ6.out.low hp7)
              clear hp7 HQ6
              go_wp2_with fail
              go_ret
              exact ⟨rfl, NoW.of_low HQ7.out.pl.st.fp⟩
end Go.Proofs.Ytmhjdjndckeepaa
