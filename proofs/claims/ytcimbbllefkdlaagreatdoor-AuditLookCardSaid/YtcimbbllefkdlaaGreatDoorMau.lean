/- Texts of this proof, merged: AuW. -/
import Derived.Test.YtcimbbllefkdlaaGreatDoorMat
import Derived.Test.YtcimbbllefkdlaaGreatDoorMaq
import Derived.Test.YtcimbbllefkdlaaGreatDoorMaa
import Derived.Test.YtcimbbllefkdlaaGreatDoorMab
import Derived.Test.YtcimbbllefkdlaaGreatDoorMac
import Derived.Test.YtcimbbllefkdlaaGreatDoorMad
import Derived.Test.YtcimbbllefkdlaaGreatDoorMae
import Derived.Test.YtcimbbllefkdlaaGreatDoorMaf
import Derived.Test.YtcimbbllefkdlaaGreatDoorMag
import Derived.Test.YtcimbbllefkdlaaGreatDoorMah
import Derived.Test.YtcimbbllefkdlaaGreatDoorMai
import Derived.Test.YtcimbbllefkdlaaGreatDoorMaj
import Derived.Test.YtcimbbllefkdlaaGreatDoorMak
import Derived.Test.YtcimbbllefkdlaaGreatDoorMal
import Derived.Test.YtcimbbllefkdlaaGreatDoorMam
import Derived.Test.YtcimbbllefkdlaaGreatDoorMan
import Derived.Test.YtcimbbllefkdlaaGreatDoorMao
import Derived.Test.YtcimbbllefkdlaaGreatDoorMap
import Derived.Test.YtcimbbllefkdlaaGreatDoorMar
import Derived.Test.YtcimbbllefkdlaaGreatDoorMas
namespace Go.Proofs.YtcimbbllefkdlaaGreatDoor
set_option linter.unusedVariables false
set_option linter.unusedSimpArgs false
open Go.RowKit Go.Lib Go.Sort
/-- What the document has found so far. -/
def Fo (B : Nat) (w : World) (fv : Value) (fs : List (Int × Int)) : Prop := w.ownsRow B 62 2 fv fs.length (flatF fs)
theorem Fo.low {B : Nat} {w w' : World} {fv : Value} {fs : List (Int × Int)} (h : Fo B w fv fs) (hp : NoW w w') : Fo B w' fv fs := ownsRow_of_block h (fun x e => hp.block x (World.ownsRow.lt h x e).2 id)
theorem Fo.add {B : Nat} {w : World} {fv : Value} {fs : List (Int × Int)} {k a : Int} (h : w.ownsRow B 62 2 fv (fs.length + 1) (flatF fs ++ [.int .i64 k, .int .i64 a])) : Fo B w fv (fs ++ [(k, a)]) := by
  have e1 : flatF (fs ++ [(k, a)]) = flatF fs ++ [.int .i64 k, .int .i64 a] := by simp [flatF]
  have e2 : (fs ++ [(k, a)]).length = fs.length + 1 := by simp
  unfold Fo
  rw [e1, e2]; exact h
theorem Fo.nil (B : Nat) (w : World) : Fo B w (.slice none 0 0) [] := World.ownsRow_nil _ _ _ 2
set_option maxHeartbeats 8000000 in
set_option maxRecDepth 100000 in
theorem rlook_ok (v : VD) (sa ca pa qa : Option Addr) (sc cc pc qc : Nat) (hs : Nat → Int) (hg : Nat → Nat) (cad : Nat → Option Addr) (cc' : Nat → Nat) (hf : v.Fit) (w0 W : World) (hH : RHashOk) (hS : AtC w0 sa v.ns 18 (fun i => (v.S i).cs ++ [.int .i64 (hs i), .int .u32 (hg i)])) (hH2 : ∀ i, i < v.ns → HoldsIn w0 (v.S i).e.ad (v.S i).e.n (holdsV (v.O i).1 (v.O i).2.1 (v.O i).2.2.1 (v.O i).2.2.2 (v.S i).e.n)) (hC : AtC w0 ca v.nc 1 (fun c => [.slice (cad c) (v.cn c) (cc' c)])) (hK : ∀ c, c < v.nc → AtC w0 (cad c) (v.cn c) 3 (fun k => (v.C c k).cs)) (hP : AtC w0 pa v.np 7 (fun i => (v.P i).cs)) (hQ : AtC w0 qa v.nq 2 (fun i => (v.Q i).cs)) (hW0 : NoW w0 W) :
    Calls Tryz.prog 8 #[.agg #[.int .i64 v.now, .slice sa v.ns sc, .slice ca v.nc cc, .slice pa v.np pc, .slice qa v.nq qc, .int .i64 v.free, .int .i64 v.live, .int .i64 v.gone]] W fun e w' => ∃ fv, e = .returned fv ∧ w'.ownsRow W.heap.size 62 2 fv v.faults.length (flatF v.faults) ∧ NoW W w' := by
  obtain ⟨hns, hnc, hcn, hnp, hnq, hhn, hok⟩ := hf
  have HS := Lib.hid hS
  have HC := Lib.hid hC
  have HK := Lib.hid hK
  have HP := Lib.hid hP
  have HQ := Lib.hid hQ
  have HHo := Lib.hid hH2
  have HHn := Lib.hid hhn
  have HCn := Lib.hid hcn
  have Hok := Lib.hid hok
  have HH := Lib.hid hH
  have HW0 := Lib.hid hW0
  clear hS hC hK hP hQ hH2 hhn hcn hok hH hW0
  go_enter Tryz.func8, Tryz.ntmps8
  go_upto_region 1 with fail
  refine wp_gen (fun Vw hW => ?_)
  have hp := new_now hW
  have hB := new_blk hW
  clear hW
  obtain ⟨gV, hgV⟩ : ∃ g, g = W.heap.size := ⟨_, rfl⟩
  rw [← hgV] at hB ⊢
  have B0 := hB
  have HV0 := Lib.hid hp
  clear hB hp hgV
  have HX := Lib.hid (Fp.refl (fun _ => False) Vw)
  have B_V := hid_blk B0 HX.out
  have c1 := cell_at B_V 1 rfl
  have lV := hid_lt B_V
  go_wp2_with fail
  clear c1 lV B_V
  have HO := Lib.hid (Fo.nil Vw.heap.size Vw)
  have HLen := Lib.hid (show ([] : List (Int × Int)).length ≤ 0 from Nat.le_refl _)
  go_loopg [4, 3] (v.ns + 1) (fun gg1 iv ov wx => ∃ (i : Nat) (fv : Value), i ≤ v.ns ∧ gg1 = v.ns + 1 - i ∧ iv = .int .i64 (i : Int) ∧ fv = ov ∧ Fo Vw.heap.size wx fv (([] : List (Int × Int)) ++ flt 1 0 v.f1 i) ∧ NoW Vw wx)
  case atStart => exact ⟨0, _, by omega, by omega, rfl, rfl, by simpa [flt] using HO.out, HX.out⟩
  case round =>
    clear HO HX
    obtain ⟨i, fv, hi, hg, rfl, rfl, hO, hN⟩ := hrel
    have Hg := Lib.hid hg
    have HX := Lib.hid hN
    have HO := Lib.hid hO
    clear hg hN hO
    by_cases hlt1 : i < v.ns
    · skip
      have pk1 : decide ((i : Int) < (v.ns : Int)) = true := decide_eq_true (by omega)
      have ck1 : (i : Int) < (v.ns : Int) := by omega
      obtain ⟨b1, o1, hs1, lb1, xc⟩ := (HS.out.low (HW0.out.trans (HV0.out.trans HX.out (fun _ _ h => h)) (fun _ _ h => h))) i hlt1
      subst hs1
      have XC1 := Lib.hid xc
      clear xc
      have B_V := hid_blk B0 HX.out
      have c1 := cell_at B_V 1 rfl
      have lV := hid_lt B_V
      go_wp2_with (refine wpList_load_at (o := ⟨some 25, _, _, _, _, _⟩) rfl _ _ rfl b1 (o1 + i * 18) (by kernel_rfl) #[.bool (v.S i).used, .bool (v.S i).put, .bool (v.S i).dead, .int .u8 (v.S i).e.r, .int .u32 (v.S i).e.a, .int .u16 (v.S i).e.p, .int .u32 (v.S i).e.b, .int .u16 (v.S i).e.q, .int .u8 (v.S i).e.r2, .int .u32 (v.S i).e.a2, .int .u16 (v.S i).e.p2, .int .u32 (v.S i).e.b2, .int .u16 (v.S i).e.q2, .int .i64 (v.S i).e.st, .int .i64 (v.S i).e.dl, .slice (v.S i).e.ad (v.S i).e.n (v.S i).e.c, .int .i64 (hs i), .int .u32 (hg i)] _ XC1.out Tryz.underlying73 rfl (by kernel_rfl) ?_)
      refine (rslot_ok v none none none none 0 0 0 0 i (hs i) (hg i) w0 _ (HW0.out.trans (HV0.out.trans HX.out (fun _ _ h => h)) (fun _ _ h => h))).mono ?_
      rintro e zw ⟨rfl, hp⟩
      replace HX := hid_now HX hp
      replace HO := Lib.hid (HO.out.low hp)
      clear hp
      clear B_V lV c1 lb1 XC1
      rcases hb : v.f1 i with _ | _
      · have Hb := Lib.hid hb
        clear hb
        go_wp2_with fail
        go_roundg (v.ns - i)
        case measure => have := Hg.out; omega
        case rel => exact ⟨i + 1, fv, by omega, by omega, by go_num, rfl, by rw [flt_no Hb.out]; exact HO.out, HX.out⟩
      · have Hb := Lib.hid hb
        clear hb
        go_wp2_with (at_builtin; go_must (refine wp_append1 rfl _ _ 33 rfl Vw.heap.size 62 foundZ 2 Tryz.underlying33 infoRFound rfl (by decide) fv (([] : List (Int × Int)) ++ flt 1 0 v.f1 i).length (flatF (([] : List (Int × Int)) ++ flt 1 0 v.f1 i)) rfl (HO.out.low ((Fp.refl (fun _ => False) zw).alloc _)) zw.heap.size [.int .i64 1, .int .i64 (i)] rfl rfl ?_ (by simp [Value.oneCell']) (by have h1 := HLen.out; have h2 := flt_len 1 0 v.f1 i; (try simp only [List.length_append]); omega) ?_ ?_))
        · exact heap_alloc_new zw _
        · exact Nat.le_trans HX.out.size (((Fp.refl (fun _ => False) zw).alloc _).size)
        intro v' w' hown hgr _ _
        have hf : NoW Vw w' := (HX.out.trans ((Fp.refl (fun _ => False) zw).alloc (.cells #[.int .i64 1, .int .i64 (i)] 62)) (fun _ _ h => h)).grown hgr (fun x e => Or.inl (World.ownsRow.lt HO.out x e).1)
        have HO2 := Lib.hid (Fo.add (fs := ([] : List (Int × Int)) ++ flt 1 0 v.f1 i) (k := 1) (a := i) (by first | exact hown | (simp only [List.length_append]; exact hown)))
        have HX2 := Lib.hid hf
        clear hown hgr hf
        go_wp2_with fail
        go_roundg (v.ns - i)
        case measure => have := Hg.out; omega
        case rel => exact ⟨i + 1, v', by omega, by omega, by go_num, rfl, by rw [flt0_yes Hb.out]; exact HO2.out, HX2.out⟩
    · obtain rfl : i = v.ns := by omega
      have pk : decide ((v.ns : Int) < (v.ns : Int)) = false := decide_eq_false (by omega)
      have B_V := hid_blk B0 HX.out
      have c1 := cell_at B_V 1 rfl
      have lV := hid_lt B_V
      go_wp2_with fail
      clear B_V lV c1 pk
      obtain ⟨fs1, hfs⟩ : ∃ l, l = ([] : List (Int × Int)) ++ flt 1 0 v.f1 v.ns := ⟨_, rfl⟩
      rw [← hfs] at HO
      have HE1 := Lib.hid hfs
      have HLen := Lib.hid (show fs1.length ≤ 100 from by have h1 := HLen.out; have h2 := flt_len 1 0 v.f1 v.ns; rw [hfs]; simp only [List.length_append]; omega)
      clear hfs Hg hi hlt1
      go_loopg [5, 3] (v.nc + 1) (fun gg2 iv ov wx => ∃ (i : Nat) (fv : Value), i ≤ v.nc ∧ gg2 = v.nc + 1 - i ∧ iv = .int .i64 (i : Int) ∧ fv = ov ∧ Fo Vw.heap.size wx fv (fs1 ++ flt 2 0 v.f2 i) ∧ NoW Vw wx)
      case atStart => exact ⟨0, _, by omega, by omega, rfl, rfl, by simpa [flt] using HO.out, HX.out⟩
      case round =>
        clear HO HX
        obtain ⟨i, fv, hi, hg, rfl, rfl, hO, hN⟩ := hrel
        have Hg := Lib.hid hg
        have HX := Lib.hid hN
        have HO := Lib.hid hO
        clear hg hN hO
        by_cases hlt1 : i < v.nc
        · skip
          have pk1 : decide ((i : Int) < (v.nc : Int)) = true := decide_eq_true (by omega)
          have ck1 : (i : Int) < (v.nc : Int) := by omega
          have B_V := hid_blk B0 HX.out
          have c0 := cell_at B_V 0 rfl
          have c1 := cell_at B_V 1 rfl
          have c2 := cell_at B_V 2 rfl
          have c3 := cell_at B_V 3 rfl
          have c4 := cell_at B_V 4 rfl
          have c5 := cell_at B_V 5 rfl
          have c6 := cell_at B_V 6 rfl
          have c7 := cell_at B_V 7 rfl
          have lV := hid_lt B_V
          go_wp2_with fail
          refine (rchain_ok v _ _ _ _ _ _ _ _ hs hg cad cc' i hlt1 hnc HCn.out w0 _ HH.out HS.out Hok.out HC.out HK.out (HW0.out.trans (HV0.out.trans HX.out (fun _ _ h => h)) (fun _ _ h => h))).mono ?_
          rintro e zw ⟨rfl, hp⟩
          replace HX := hid_now HX hp
          replace HO := Lib.hid (HO.out.low hp)
          clear hp
          clear B_V lV c0 c1 c2 c3 c4 c5 c6 c7
          rcases hb : v.f2 i with _ | _
          · have Hb := Lib.hid hb
            clear hb
            go_wp2_with fail
            go_roundg (v.nc - i)
            case measure => have := Hg.out; omega
            case rel => exact ⟨i + 1, fv, by omega, by omega, by go_num, rfl, by rw [flt_no Hb.out]; exact HO.out, HX.out⟩
          · have Hb := Lib.hid hb
            clear hb
            go_wp2_with (at_builtin; go_must (refine wp_append1 rfl _ _ 33 rfl Vw.heap.size 62 foundZ 2 Tryz.underlying33 infoRFound rfl (by decide) fv (fs1 ++ flt 2 0 v.f2 i).length (flatF (fs1 ++ flt 2 0 v.f2 i)) rfl (HO.out.low ((Fp.refl (fun _ => False) zw).alloc _)) zw.heap.size [.int .i64 2, .int .i64 (i)] rfl rfl ?_ (by simp [Value.oneCell']) (by have h1 := HLen.out; have h2 := flt_len 2 0 v.f2 i; (try simp only [List.length_append]); omega) ?_ ?_))
            · exact heap_alloc_new zw _
            · exact Nat.le_trans HX.out.size (((Fp.refl (fun _ => False) zw).alloc _).size)
            intro v' w' hown hgr _ _
            have hf : NoW Vw w' := (HX.out.trans ((Fp.refl (fun _ => False) zw).alloc (.cells #[.int .i64 2, .int .i64 (i)] 62)) (fun _ _ h => h)).grown hgr (fun x e => Or.inl (World.ownsRow.lt HO.out x e).1)
            have HO2 := Lib.hid (Fo.add (fs := fs1 ++ flt 2 0 v.f2 i) (k := 2) (a := i) (by first | exact hown | (simp only [List.length_append]; exact hown)))
            have HX2 := Lib.hid hf
            clear hown hgr hf
            go_wp2_with fail
            go_roundg (v.nc - i)
            case measure => have := Hg.out; omega
            case rel => exact ⟨i + 1, v', by omega, by omega, by go_num, rfl, by rw [flt0_yes Hb.out]; exact HO2.out, HX2.out⟩
        · obtain rfl : i = v.nc := by omega
          have pk : decide ((v.nc : Int) < (v.nc : Int)) = false := decide_eq_false (by omega)
          have B_V := hid_blk B0 HX.out
          have c2 := cell_at B_V 2 rfl
          have lV := hid_lt B_V
          go_wp2_with fail
          clear B_V lV c2 pk
          obtain ⟨fs2, hfs⟩ : ∃ l, l = fs1 ++ flt 2 0 v.f2 v.nc := ⟨_, rfl⟩
          rw [← hfs] at HO
          have HE2 := Lib.hid hfs
          have HLen := Lib.hid (show fs2.length ≤ 200 from by have h1 := HLen.out; have h2 := flt_len 2 0 v.f2 v.nc; rw [hfs]; simp only [List.length_append]; omega)
          clear hfs Hg hi hlt1
          go_loopg [6, 3] (v.ns + 1) (fun gg3 iv ov wx => ∃ (i : Nat) (fv : Value), i ≤ v.ns ∧ gg3 = v.ns + 1 - i ∧ iv = .int .i64 (i : Int) ∧ fv = ov ∧ Fo Vw.heap.size wx fv (fs2 ++ flt 2 v.nc v.f2b i) ∧ NoW Vw wx)
          case atStart => exact ⟨0, _, by omega, by omega, rfl, rfl, by simpa [flt] using HO.out, HX.out⟩
          case round =>
            clear HO HX
            obtain ⟨i, fv, hi, hg, rfl, rfl, hO, hN⟩ := hrel
            have Hg := Lib.hid hg
            have HX := Lib.hid hN
            have HO := Lib.hid hO
            clear hg hN hO
            by_cases hlt1 : i < v.ns
            · skip
              have pk1 : decide ((i : Int) < (v.ns : Int)) = true := decide_eq_true (by omega)
              have ck1 : (i : Int) < (v.ns : Int) := by omega
              obtain ⟨b1, o1, hs1, lb1, xc⟩ := (HS.out.low (HW0.out.trans (HV0.out.trans HX.out (fun _ _ h => h)) (fun _ _ h => h))) i hlt1
              subst hs1
              have x1 : wr.cell? ⟨b1, o1 + i * 18 + 1, none⟩ = some (.bool (v.S i).put) := xc 1 _ rfl
              clear xc
              obtain ⟨m0, hm0⟩ : ∃ m, m = v.many i false v.nc := ⟨_, rfl⟩
              obtain ⟨m1, hm1⟩ : ∃ m, m = v.many i true v.nc := ⟨_, rfl⟩
              have KM0 := Lib.hid (fun W2 (hW2 : NoW w0 W2) => rlinks_ok v (some ⟨b1, o1, none⟩) ca pa qa sc cc pc qc cad cc' i false hnc HCn.out w0 W2 HC.out HK.out hW2)
              have KM1 := Lib.hid (fun W2 (hW2 : NoW w0 W2) => rlinks_ok v (some ⟨b1, o1, none⟩) ca pa qa sc cc pc qc cad cc' i true hnc HCn.out w0 W2 HC.out HK.out hW2)
              rw [← hm0] at KM0
              rw [← hm1] at KM1
              have s1 : IntKind.i64.wrap ((v.nc : Int) + (i : Int)) = (v.nc : Int) + (i : Int) := IntWalk.i64_in _ (by omega)
              have HS1 := Lib.hid s1
              clear s1
              obtain ⟨pt, hpt⟩ : ∃ b, (v.S i).put = b := ⟨_, rfl⟩
              rw [hpt] at x1
              have hF : v.f2b i = (decide (m0 ≠ if pt then 1 else 0) || decide (m1 ≠ if pt then 1 else 0)) := by rw [hm0, hm1, ← hpt]; rfl
              have HF := Lib.hid hF
              clear hF hpt hm0 hm1
              cases pt with
              | false =>
                have B_V := hid_blk B0 HX.out
                have c0 := cell_at B_V 0 rfl
                have c1 := cell_at B_V 1 rfl
                have c2 := cell_at B_V 2 rfl
                have c3 := cell_at B_V 3 rfl
                have c4 := cell_at B_V 4 rfl
                have c5 := cell_at B_V 5 rfl
                have c6 := cell_at B_V 6 rfl
                have c7 := cell_at B_V 7 rfl
                have lV := hid_lt B_V
                go_wp2_with fail
                refine (KM0.out _ (HW0.out.trans (HV0.out.trans HX.out (fun _ _ h => h)) (fun _ _ h => h))).mono ?_
                rintro e zw ⟨rfl, hp⟩
                replace HX := hid_now HX hp
                replace HO := Lib.hid (HO.out.low hp)
                clear hp
                clear B_V lV c0 c1 c2 c3 c4 c5 c6 c7 x1 lb1 KM0
                rcases h1 : ((m0 : Int) == 0) with _ | _
                · have h1n : ((m0 : Int) != 0) = true := by simp only [bne, h1]; rfl
                  have HB := Lib.hid (show v.f2b i = true from by rw [HF.out]; have := beq_eq_false_iff_ne.1 h1; have h9 : m0 ≠ 0 := (by omega); simp [h9])
                  have B_V := hid_blk B0 HX.out
                  have c2 := cell_at B_V 2 rfl
                  have lV := hid_lt B_V
                  have s1 := HS1.out
                  go_wp2_with (at_builtin; go_must (refine wp_append1 rfl _ _ 33 rfl Vw.heap.size 62 foundZ 2 Tryz.underlying33 infoRFound rfl (by decide) fv (fs2 ++ flt 2 v.nc v.f2b i).length (flatF (fs2 ++ flt 2 v.nc v.f2b i)) rfl (HO.out.low ((Fp.refl (fun _ => False) zw).alloc _)) zw.heap.size [.int .i64 2, .int .i64 ((v.nc : Int) + (i : Int))] rfl rfl ?_ (by simp [Value.oneCell']) (by have h1 := HLen.out; have h2 := flt_len 2 (v.nc : Int) v.f2b i; (try simp only [List.length_append]); omega) ?_ ?_))
                  · exact heap_alloc_new zw _
                  · exact Nat.le_trans HX.out.size (((Fp.refl (fun _ => False) zw).alloc _).size)
                  intro v' w' hown hgr _ _
                  have hf : NoW Vw w' := (HX.out.trans ((Fp.refl (fun _ => False) zw).alloc (.cells #[.int .i64 2, .int .i64 ((v.nc : Int) + (i : Int))] 62)) (fun _ _ h => h)).grown hgr (fun x e => Or.inl (World.ownsRow.lt HO.out x e).1)
                  have HO2 := Lib.hid (Fo.add (fs := fs2 ++ flt 2 v.nc v.f2b i) (k := 2) (a := (v.nc : Int) + (i : Int)) (by first | exact hown | (simp only [List.length_append]; exact hown)))
                  have HX2 := Lib.hid hf
                  clear hown hgr hf
                  go_wp2_with fail
                  go_roundg (v.ns - i)
                  case measure => have := Hg.out; omega
                  case rel => exact ⟨i + 1, v', by omega, by omega, by go_num, rfl, by rw [flt_yes HB.out]; exact HO2.out, HX2.out⟩
                · have h1n : ((m0 : Int) != 0) = false := by simp only [bne, h1]; rfl
                  have B_V := hid_blk B0 HX.out
                  have c0 := cell_at B_V 0 rfl
                  have c1 := cell_at B_V 1 rfl
                  have c2 := cell_at B_V 2 rfl
                  have c3 := cell_at B_V 3 rfl
                  have c4 := cell_at B_V 4 rfl
                  have c5 := cell_at B_V 5 rfl
                  have c6 := cell_at B_V 6 rfl
                  have c7 := cell_at B_V 7 rfl
                  have lV := hid_lt B_V
                  go_wp2_with fail
                  refine (KM1.out _ (HW0.out.trans (HV0.out.trans HX.out (fun _ _ h => h)) (fun _ _ h => h))).mono ?_
                  rintro e yw ⟨rfl, hp⟩
                  replace HX := hid_now HX hp
                  replace HO := Lib.hid (HO.out.low hp)
                  clear hp
                  clear B_V lV c0 c1 c2 c3 c4 c5 c6 c7 KM1
                  rcases h2 : ((m1 : Int) == 0) with _ | _
                  · have h2n : ((m1 : Int) != 0) = true := by simp only [bne, h2]; rfl
                    have HB := Lib.hid (show v.f2b i = true from by rw [HF.out]; have := beq_eq_false_iff_ne.1 h2; have h9 : m1 ≠ 0 := (by omega); simp [h9])
                    have B_V := hid_blk B0 HX.out
                    have c2 := cell_at B_V 2 rfl
                    have lV := hid_lt B_V
                    have s1 := HS1.out
                    go_wp2_with (at_builtin; go_must (refine wp_append1 rfl _ _ 33 rfl Vw.heap.size 62 foundZ 2 Tryz.underlying33 infoRFound rfl (by decide) fv (fs2 ++ flt 2 v.nc v.f2b i).length (flatF (fs2 ++ flt 2 v.nc v.f2b i)) rfl (HO.out.low ((Fp.refl (fun _ => False) yw).alloc _)) yw.heap.size [.int .i64 2, .int .i64 ((v.nc : Int) + (i : Int))] rfl rfl ?_ (by simp [Value.oneCell']) (by have h1 := HLen.out; have h2 := flt_len 2 (v.nc : Int) v.f2b i; (try simp only [List.length_append]); omega) ?_ ?_))
                    · exact heap_alloc_new yw _
                    · exact Nat.le_trans HX.out.size (((Fp.refl (fun _ => False) yw).alloc _).size)
                    intro v' w' hown hgr _ _
                    have hf : NoW Vw w' := (HX.out.trans ((Fp.refl (fun _ => False) yw).alloc (.cells #[.int .i64 2, .int .i64 ((v.nc : Int) + (i : Int))] 62)) (fun _ _ h => h)).grown hgr (fun x e => Or.inl (World.ownsRow.lt HO.out x e).1)
                    have HO2 := Lib.hid (Fo.add (fs := fs2 ++ flt 2 v.nc v.f2b i) (k := 2) (a := (v.nc : Int) + (i : Int)) (by first | exact hown | (simp only [List.length_append]; exact hown)))
                    have HX2 := Lib.hid hf
                    clear hown hgr hf
                    go_wp2_with fail
                    go_roundg (v.ns - i)
                    case measure => have := Hg.out; omega
                    case rel => exact ⟨i + 1, v', by omega, by omega, by go_num, rfl, by rw [flt_yes HB.out]; exact HO2.out, HX2.out⟩
                  · have h2n : ((m1 : Int) != 0) = false := by simp only [bne, h2]; rfl
                    have HB := Lib.hid (show v.f2b i = false from by rw [HF.out]; have e1 := beq_iff_eq.1 h1; have e2 := beq_iff_eq.1 h2; have h9 : m0 = 0 := (by omega); have h8 : m1 = 0 := (by omega); simp [h9, h8])
                    go_wp2_with fail
                    go_roundg (v.ns - i)
                    case measure => have := Hg.out; omega
                    case rel => exact ⟨i + 1, fv, by omega, by omega, by go_num, rfl, by rw [flt_no HB.out]; exact HO.out, HX.out⟩
              | true =>
                have B_V := hid_blk B0 HX.out
                have c0 := cell_at B_V 0 rfl
                have c1 := cell_at B_V 1 rfl
                have c2 := cell_at B_V 2 rfl
                have c3 := cell_at B_V 3 rfl
                have c4 := cell_at B_V 4 rfl
                have c5 := cell_at B_V 5 rfl
                have c6 := cell_at B_V 6 rfl
                have c7 := cell_at B_V 7 rfl
                have lV := hid_lt B_V
                go_wp2_with fail
                refine (KM0.out _ (HW0.out.trans (HV0.out.trans HX.out (fun _ _ h => h)) (fun _ _ h => h))).mono ?_
                rintro e zw ⟨rfl, hp⟩
                replace HX := hid_now HX hp
                replace HO := Lib.hid (HO.out.low hp)
                clear hp
                clear B_V lV c0 c1 c2 c3 c4 c5 c6 c7 x1 lb1 KM0
                rcases h1 : ((m0 : Int) == 1) with _ | _
                · have h1n : ((m0 : Int) != 1) = true := by simp only [bne, h1]; rfl
                  have HB := Lib.hid (show v.f2b i = true from by rw [HF.out]; have := beq_eq_false_iff_ne.1 h1; have h9 : m0 ≠ 1 := (by omega); simp [h9])
                  have B_V := hid_blk B0 HX.out
                  have c2 := cell_at B_V 2 rfl
                  have lV := hid_lt B_V
                  have s1 := HS1.out
                  go_wp2_with (at_builtin; go_must (refine wp_append1 rfl _ _ 33 rfl Vw.heap.size 62 foundZ 2 Tryz.underlying33 infoRFound rfl (by decide) fv (fs2 ++ flt 2 v.nc v.f2b i).length (flatF (fs2 ++ flt 2 v.nc v.f2b i)) rfl (HO.out.low ((Fp.refl (fun _ => False) zw).alloc _)) zw.heap.size [.int .i64 2, .int .i64 ((v.nc : Int) + (i : Int))] rfl rfl ?_ (by simp [Value.oneCell']) (by have h1 := HLen.out; have h2 := flt_len 2 (v.nc : Int) v.f2b i; (try simp only [List.length_append]); omega) ?_ ?_))
                  · exact heap_alloc_new zw _
                  · exact Nat.le_trans HX.out.size (((Fp.refl (fun _ => False) zw).alloc _).size)
                  intro v' w' hown hgr _ _
                  have hf : NoW Vw w' := (HX.out.trans ((Fp.refl (fun _ => False) zw).alloc (.cells #[.int .i64 2, .int .i64 ((v.nc : Int) + (i : Int))] 62)) (fun _ _ h => h)).grown hgr (fun x e => Or.inl (World.ownsRow.lt HO.out x e).1)
                  have HO2 := Lib.hid (Fo.add (fs := fs2 ++ flt 2 v.nc v.f2b i) (k := 2) (a := (v.nc : Int) + (i : Int)) (by first | exact hown | (simp only [List.length_append]; exact hown)))
                  have HX2 := Lib.hid hf
                  clear hown hgr hf
                  go_wp2_with fail
                  go_roundg (v.ns - i)
                  case measure => have := Hg.out; omega
                  case rel => exact ⟨i + 1, v', by omega, by omega, by go_num, rfl, by rw [flt_yes HB.out]; exact HO2.out, HX2.out⟩
                · have h1n : ((m0 : Int) != 1) = false := by simp only [bne, h1]; rfl
                  have B_V := hid_blk B0 HX.out
                  have c0 := cell_at B_V 0 rfl
                  have c1 := cell_at B_V 1 rfl
                  have c2 := cell_at B_V 2 rfl
                  have c3 := cell_at B_V 3 rfl
                  have c4 := cell_at B_V 4 rfl
                  have c5 := cell_at B_V 5 rfl
                  have c6 := cell_at B_V 6 rfl
                  have c7 := cell_at B_V 7 rfl
                  have lV := hid_lt B_V
                  go_wp2_with fail
                  refine (KM1.out _ (HW0.out.trans (HV0.out.trans HX.out (fun _ _ h => h)) (fun _ _ h => h))).mono ?_
                  rintro e yw ⟨rfl, hp⟩
                  replace HX := hid_now HX hp
                  replace HO := Lib.hid (HO.out.low hp)
                  clear hp
                  clear B_V lV c0 c1 c2 c3 c4 c5 c6 c7 KM1
                  rcases h2 : ((m1 : Int) == 1) with _ | _
                  · have h2n : ((m1 : Int) != 1) = true := by simp only [bne, h2]; rfl
                    have HB := Lib.hid (show v.f2b i = true from by rw [HF.out]; have := beq_eq_false_iff_ne.1 h2; have h9 : m1 ≠ 1 := (by omega); simp [h9])
                    have B_V := hid_blk B0 HX.out
                    have c2 := cell_at B_V 2 rfl
                    have lV := hid_lt B_V
                    have s1 := HS1.out
                    go_wp2_with (at_builtin; go_must (refine wp_append1 rfl _ _ 33 rfl Vw.heap.size 62 foundZ 2 Tryz.underlying33 infoRFound rfl (by decide) fv (fs2 ++ flt 2 v.nc v.f2b i).length (flatF (fs2 ++ flt 2 v.nc v.f2b i)) rfl (HO.out.low ((Fp.refl (fun _ => False) yw).alloc _)) yw.heap.size [.int .i64 2, .int .i64 ((v.nc : Int) + (i : Int))] rfl rfl ?_ (by simp [Value.oneCell']) (by have h1 := HLen.out; have h2 := flt_len 2 (v.nc : Int) v.f2b i; (try simp only [List.length_append]); omega) ?_ ?_))
                    · exact heap_alloc_new yw _
                    · exact Nat.le_trans HX.out.size (((Fp.refl (fun _ => False) yw).alloc _).size)
                    intro v' w' hown hgr _ _
                    have hf : NoW Vw w' := (HX.out.trans ((Fp.refl (fun _ => False) yw).alloc (.cells #[.int .i64 2, .int .i64 ((v.nc : Int) + (i : Int))] 62)) (fun _ _ h => h)).grown hgr (fun x e => Or.inl (World.ownsRow.lt HO.out x e).1)
                    have HO2 := Lib.hid (Fo.add (fs := fs2 ++ flt 2 v.nc v.f2b i) (k := 2) (a := (v.nc : Int) + (i : Int)) (by first | exact hown | (simp only [List.length_append]; exact hown)))
                    have HX2 := Lib.hid hf
                    clear hown hgr hf
                    go_wp2_with fail
                    go_roundg (v.ns - i)
                    case measure => have := Hg.out; omega
                    case rel => exact ⟨i + 1, v', by omega, by omega, by go_num, rfl, by rw [flt_yes HB.out]; exact HO2.out, HX2.out⟩
                  · have h2n : ((m1 : Int) != 1) = false := by simp only [bne, h2]; rfl
                    have HB := Lib.hid (show v.f2b i = false from by rw [HF.out]; have e1 := beq_iff_eq.1 h1; have e2 := beq_iff_eq.1 h2; have h9 : m0 = 1 := (by omega); have h8 : m1 = 1 := (by omega); simp [h9, h8])
                    go_wp2_with fail
                    go_roundg (v.ns - i)
                    case measure => have := Hg.out; omega
                    case rel => exact ⟨i + 1, fv, by omega, by omega, by go_num, rfl, by rw [flt_no HB.out]; exact HO.out, HX.out⟩
            · obtain rfl : i = v.ns := by omega
              have pk : decide ((v.ns : Int) < (v.ns : Int)) = false := decide_eq_false (by omega)
              have B_V := hid_blk B0 HX.out
              have c1 := cell_at B_V 1 rfl
              have lV := hid_lt B_V
              go_wp2_with fail
              clear B_V lV c1 pk
              obtain ⟨fs3, hfs⟩ : ∃ l, l = fs2 ++ flt 2 v.nc v.f2b v.ns := ⟨_, rfl⟩
              rw [← hfs] at HO
              have HE3 := Lib.hid hfs
              have HLen := Lib.hid (show fs3.length ≤ 300 from by have h1 := HLen.out; have h2 := flt_len 2 v.nc v.f2b v.ns; rw [hfs]; simp only [List.length_append]; omega)
              clear hfs Hg hi hlt1
              go_loopg [8, 3] (v.ns + 1) (fun gg4 iv ov wx => ∃ (i : Nat) (fv : Value), i ≤ v.ns ∧ gg4 = v.ns + 1 - i ∧ iv = .int .i64 (i : Int) ∧ fv = ov ∧ Fo Vw.heap.size wx fv (fs3 ++ flt 3 0 v.f3 i) ∧ NoW Vw wx)
              case atStart => exact ⟨0, _, by omega, by omega, rfl, rfl, by simpa [flt] using HO.out, HX.out⟩
              case round =>
                clear HO HX
                obtain ⟨i, fv, hi, hg, rfl, rfl, hO, hN⟩ := hrel
                have Hg := Lib.hid hg
                have HX := Lib.hid hN
                have HO := Lib.hid hO
                clear hg hN hO
                by_cases hlt1 : i < v.ns
                · skip
                  have pk1 : decide ((i : Int) < (v.ns : Int)) = true := decide_eq_true (by omega)
                  have ck1 : (i : Int) < (v.ns : Int) := by omega
                  have B_V := hid_blk B0 HX.out
                  have c0 := cell_at B_V 0 rfl
                  have c1 := cell_at B_V 1 rfl
                  have c2 := cell_at B_V 2 rfl
                  have c3 := cell_at B_V 3 rfl
                  have c4 := cell_at B_V 4 rfl
                  have c5 := cell_at B_V 5 rfl
                  have c6 := cell_at B_V 6 rfl
                  have c7 := cell_at B_V 7 rfl
                  have lV := hid_lt B_V
                  go_wp2_with fail
                  refine (rtuple_ok v _ _ _ _ _ _ _ _ hs hg i hlt1 hns w0 _ HS.out (HW0.out.trans (HV0.out.trans HX.out (fun _ _ h => h)) (fun _ _ h => h))).mono ?_
                  rintro e zw ⟨rfl, hp⟩
                  replace HX := hid_now HX hp
                  replace HO := Lib.hid (HO.out.low hp)
                  clear hp
                  clear B_V lV c0 c1 c2 c3 c4 c5 c6 c7
                  rcases hb : v.f3 i with _ | _
                  · have Hb := Lib.hid hb
                    clear hb
                    go_wp2_with fail
                    go_roundg (v.ns - i)
                    case measure => have := Hg.out; omega
                    case rel => exact ⟨i + 1, fv, by omega, by omega, by go_num, rfl, by rw [flt_no Hb.out]; exact HO.out, HX.out⟩
                  · have Hb := Lib.hid hb
                    clear hb
                    go_wp2_with (at_builtin; go_must (refine wp_append1 rfl _ _ 33 rfl Vw.heap.size 62 foundZ 2 Tryz.underlying33 infoRFound rfl (by decide) fv (fs3 ++ flt 3 0 v.f3 i).length (flatF (fs3 ++ flt 3 0 v.f3 i)) rfl (HO.out.low ((Fp.refl (fun _ => False) zw).alloc _)) zw.heap.size [.int .i64 3, .int .i64 (i)] rfl rfl ?_ (by simp [Value.oneCell']) (by have h1 := HLen.out; have h2 := flt_len 3 0 v.f3 i; (try simp only [List.length_append]); omega) ?_ ?_))
                    · exact heap_alloc_new zw _
                    · exact Nat.le_trans HX.out.size (((Fp.refl (fun _ => False) zw).alloc _).size)
                    intro v' w' hown hgr _ _
                    have hf : NoW Vw w' := (HX.out.trans ((Fp.refl (fun _ => False) zw).alloc (.cells #[.int .i64 3, .int .i64 (i)] 62)) (fun _ _ h => h)).grown hgr (fun x e => Or.inl (World.ownsRow.lt HO.out x e).1)
                    have HO2 := Lib.hid (Fo.add (fs := fs3 ++ flt 3 0 v.f3 i) (k := 3) (a := i) (by first | exact hown | (simp only [List.length_append]; exact hown)))
                    have HX2 := Lib.hid hf
                    clear hown hgr hf
                    go_wp2_with fail
                    go_roundg (v.ns - i)
                    case measure => have := Hg.out; omega
                    case rel => exact ⟨i + 1, v', by omega, by omega, by go_num, rfl, by rw [flt0_yes Hb.out]; exact HO2.out, HX2.out⟩
                · obtain rfl : i = v.ns := by omega
                  have pk : decide ((v.ns : Int) < (v.ns : Int)) = false := decide_eq_false (by omega)
                  have B_V := hid_blk B0 HX.out
                  have c1 := cell_at B_V 1 rfl
                  have lV := hid_lt B_V
                  go_wp2_with fail
                  clear B_V lV c1 pk
                  obtain ⟨fs4, hfs⟩ : ∃ l, l = fs3 ++ flt 3 0 v.f3 v.ns := ⟨_, rfl⟩
                  rw [← hfs] at HO
                  have HE4 := Lib.hid hfs
                  have HLen := Lib.hid (show fs4.length ≤ 400 from by have h1 := HLen.out; have h2 := flt_len 3 0 v.f3 v.ns; rw [hfs]; simp only [List.length_append]; omega)
                  clear hfs Hg hi hlt1
                  go_loopg [9, 3] (v.np + 1) (fun gg5 iv ov wx => ∃ (i : Nat) (fv : Value), i ≤ v.np ∧ gg5 = v.np + 1 - i ∧ iv = .int .i64 (i : Int) ∧ fv = ov ∧ Fo Vw.heap.size wx fv (fs4 ++ flt 4 0 v.f4 i) ∧ NoW Vw wx)
                  case atStart => exact ⟨0, _, by omega, by omega, rfl, rfl, by simpa [flt] using HO.out, HX.out⟩
                  case round =>
                    clear HO HX
                    obtain ⟨i, fv, hi, hg, rfl, rfl, hO, hN⟩ := hrel
                    have Hg := Lib.hid hg
                    have HX := Lib.hid hN
                    have HO := Lib.hid hO
                    clear hg hN hO
                    by_cases hlt1 : i < v.np
                    · skip
                      have pk1 : decide ((i : Int) < (v.np : Int)) = true := decide_eq_true (by omega)
                      have ck1 : (i : Int) < (v.np : Int) := by omega
                      obtain ⟨b1, o1, hs1, lb1, xc⟩ := (HP.out.low (HW0.out.trans (HV0.out.trans HX.out (fun _ _ h => h)) (fun _ _ h => h))) i hlt1
                      subst hs1
                      have x0 : wr.cell? ⟨b1, o1 + i * 7, none⟩ = some (.int .u8 (v.P i).pr) := xc 0 _ rfl
                      have x1 : wr.cell? ⟨b1, o1 + i * 7 + 1, none⟩ = some (.int .u32 (v.P i).oa) := xc 1 _ rfl
                      have x2 : wr.cell? ⟨b1, o1 + i * 7 + 2, none⟩ = some (.int .u16 (v.P i).op) := xc 2 _ rfl
                      have x3 : wr.cell? ⟨b1, o1 + i * 7 + 3, none⟩ = some (.int .u32 (v.P i).ia) := xc 3 _ rfl
                      have x4 : wr.cell? ⟨b1, o1 + i * 7 + 4, none⟩ = some (.int .u16 (v.P i).ip) := xc 4 _ rfl
                      have x5 : wr.cell? ⟨b1, o1 + i * 7 + 5, none⟩ = some (.int .i64 (v.P i).live) := xc 5 _ rfl
                      have x6 : wr.cell? ⟨b1, o1 + i * 7 + 6, none⟩ = some (.int .i64 (v.P i).held) := xc 6 _ rfl
                      clear xc
                      have B_V := hid_blk B0 HX.out
                      have c0 := cell_at B_V 0 rfl
                      have c1 := cell_at B_V 1 rfl
                      have c2 := cell_at B_V 2 rfl
                      have c3 := cell_at B_V 3 rfl
                      have c4 := cell_at B_V 4 rfl
                      have c5 := cell_at B_V 5 rfl
                      have c6 := cell_at B_V 6 rfl
                      have c7 := cell_at B_V 7 rfl
                      have lV := hid_lt B_V
                      go_upto_region 28 with fail
                      refine wp_region_held_drew (S := fun wx => NoW wr wx) (by kernel_rfl) (Fp.drew (Fp.refl _ _)) (fun hHeld0 => ?_)
                      refine any_eq hHeld0 (fun qw1 hW hHeld => ?_)
                      clear hHeld0
                      clear hW
                      (refine tk 0 (some 103) ?_ ?_ ?_; rotate_left; (focus (intro wS hSw; (have q0 := (hSw.cell (p := ⟨gV, 0, none⟩) lV id).trans c0); (have q1 := (hSw.cell (p := ⟨gV, 1, none⟩) lV id).trans c1); (have q2 := (hSw.cell (p := ⟨gV, 2, none⟩) lV id).trans c2); (have q3 := (hSw.cell (p := ⟨gV, 3, none⟩) lV id).trans c3); (have q4 := (hSw.cell (p := ⟨gV, 4, none⟩) lV id).trans c4); (have q5 := (hSw.cell (p := ⟨gV, 5, none⟩) lV id).trans c5); (have q6 := (hSw.cell (p := ⟨gV, 6, none⟩) lV id).trans c6); (have q7 := (hSw.cell (p := ⟨gV, 7, none⟩) lV id).trans c7); go_simp; try with_reducible rfl)); (try simp only [Act.put, List.setIfInBounds_toArray, List.set_cons_zero, List.set_cons_succ]))
                      (refine tk 1 (some 104) ?_ ?_ ?_; rotate_left; (focus (intro wS hSw; go_simp; try with_reducible rfl)); (try simp only [Act.put, List.setIfInBounds_toArray, List.set_cons_zero, List.set_cons_succ]))
                      (refine tk 2 (some 105) ?_ ?_ ?_; rotate_left; (focus (intro wS hSw; (have q3 := (hSw.cell (p := ⟨gV, 3, none⟩) lV id).trans c3); go_simp; try with_reducible rfl)); (try simp only [Act.put, List.setIfInBounds_toArray, List.set_cons_zero, List.set_cons_succ]))
                      (refine tk 3 (some 106) ?_ ?_ ?_; rotate_left; (focus (intro wS hSw; go_simp; try with_reducible rfl)); (try simp only [Act.put, List.setIfInBounds_toArray, List.set_cons_zero, List.set_cons_succ]))
                      (refine tk 4 (some 107) ?_ ?_ ?_; rotate_left; (focus (intro wS hSw; go_simp; try with_reducible rfl)); (try simp only [Act.put, List.setIfInBounds_toArray, List.set_cons_zero, List.set_cons_succ]))
                      (refine tk 5 (some 108) ?_ ?_ ?_; rotate_left; (focus (intro wS hSw; (have p0 := (hSw.cell (p := ⟨b1, o1 + i * 7, none⟩) lb1 id).trans x0); (have p1 := (hSw.cell (p := ⟨b1, o1 + i * 7 + 1, none⟩) lb1 id).trans x1); (have p2 := (hSw.cell (p := ⟨b1, o1 + i * 7 + 2, none⟩) lb1 id).trans x2); (have p3 := (hSw.cell (p := ⟨b1, o1 + i * 7 + 3, none⟩) lb1 id).trans x3); (have p4 := (hSw.cell (p := ⟨b1, o1 + i * 7 + 4, none⟩) lb1 id).trans x4); (have p5 := (hSw.cell (p := ⟨b1, o1 + i * 7 + 5, none⟩) lb1 id).trans x5); (have p6 := (hSw.cell (p := ⟨b1, o1 + i * 7 + 6, none⟩) lb1 id).trans x6); go_simp; try with_reducible rfl)); (try simp only [Act.put, List.setIfInBounds_toArray, List.set_cons_zero, List.set_cons_succ]))
                      refine wpAnyH_ready (rs := [6]) (by kernel_rfl) (by simp) ?_
                      refine AllReadyH.cons rfl (fun K hK => ?_) AllReadyH.nil
                      go_simp
                      go_at_call 23
                      refine (show Calls _ _ _ _ _ from rrow_ok v _ _ _ _ _ _ _ _ hs hg (v.P i) hns HHn.out w0 _ HS.out HHo.out ((HW0.out.trans (HV0.out.trans HX.out (fun _ _ h => h)) (fun _ _ h => h)).trans hHeld (fun _ _ h => h))).mono ?_
                      rintro e qw2 ⟨rfl, hp⟩
                      have hn := Fp.trans hHeld hp (fun _ _ h => h.elim)
                      refine k_now hK hn ?_
                      clear hK K hp hHeld
                      have hHeld := hn
                      clear hn
                      try simp only [Act.put, List.setIfInBounds_toArray, List.set_cons_zero, List.set_cons_succ]
                      refine wpAnyH_done (by kernel_rfl) ?_ _
                      clear B_V lV c0 c1 c2 c3 c4 c5 c6 c7 lb1 x0 x1 x2 x3 x4 x5 x6
                      replace HX := hid_now HX hHeld
                      replace HO := Lib.hid (HO.out.low hHeld)
                      clear hHeld
                      have hF : (v.oRow (v.P i) v.ns || (decide ((v.nRow (v.P i) v.ns : Int) ≠ (v.P i).live) || decide ((v.P i).held < 0))) = v.f4 i := rfl
                      rw [hF]
                      clear hF
                      rcases hb : v.f4 i with _ | _
                      · have Hb := Lib.hid hb
                        clear hb
                        go_wp2_with fail
                        go_roundg (v.np - i)
                        case measure => have := Hg.out; omega
                        case rel => exact ⟨i + 1, fv, by omega, by omega, by go_num, rfl, by rw [flt_no Hb.out]; exact HO.out, HX.out⟩
                      · have Hb := Lib.hid hb
                        clear hb
                        go_wp2_with (at_builtin; go_must (refine wp_append1 rfl _ _ 33 rfl Vw.heap.size 62 foundZ 2 Tryz.underlying33 infoRFound rfl (by decide) fv (fs4 ++ flt 4 0 v.f4 i).length (flatF (fs4 ++ flt 4 0 v.f4 i)) rfl (HO.out.low ((Fp.refl (fun _ => False) qw2).alloc _)) qw2.heap.size [.int .i64 4, .int .i64 (i)] rfl rfl ?_ (by simp [Value.oneCell']) (by have h1 := HLen.out; have h2 := flt_len 4 0 v.f4 i; (try simp only [List.length_append]); omega) ?_ ?_))
                        · exact heap_alloc_new qw2 _
                        · exact Nat.le_trans HX.out.size (((Fp.refl (fun _ => False) qw2).alloc _).size)
                        intro v' w' hown hgr _ _
                        have hf : NoW Vw w' := (HX.out.trans ((Fp.refl (fun _ => False) qw2).alloc (.cells #[.int .i64 4, .int .i64 (i)] 62)) (fun _ _ h => h)).grown hgr (fun x e => Or.inl (World.ownsRow.lt HO.out x e).1)
                        have HO2 := Lib.hid (Fo.add (fs := fs4 ++ flt 4 0 v.f4 i) (k := 4) (a := i) (by first | exact hown | (simp only [List.length_append]; exact hown)))
                        have HX2 := Lib.hid hf
                        clear hown hgr hf
                        go_wp2_with fail
                        go_roundg (v.np - i)
                        case measure => have := Hg.out; omega
                        case rel => exact ⟨i + 1, v', by omega, by omega, by go_num, rfl, by rw [flt0_yes Hb.out]; exact HO2.out, HX2.out⟩
                    · obtain rfl : i = v.np := by omega
                      have pk : decide ((v.np : Int) < (v.np : Int)) = false := decide_eq_false (by omega)
                      have B_V := hid_blk B0 HX.out
                      have c3 := cell_at B_V 3 rfl
                      have lV := hid_lt B_V
                      go_wp2_with fail
                      clear B_V lV c3 pk
                      obtain ⟨fs5, hfs⟩ : ∃ l, l = fs4 ++ flt 4 0 v.f4 v.np := ⟨_, rfl⟩
                      rw [← hfs] at HO
                      have HE5 := Lib.hid hfs
                      have HLen := Lib.hid (show fs5.length ≤ 500 from by have h1 := HLen.out; have h2 := flt_len 4 0 v.f4 v.np; rw [hfs]; simp only [List.length_append]; omega)
                      clear hfs Hg hi hlt1
                      go_loopg [10, 3] (v.ns + 1) (fun gg6 iv ov wx => ∃ (i : Nat) (fv : Value), i ≤ v.ns ∧ gg6 = v.ns + 1 - i ∧ iv = .int .i64 (i : Int) ∧ fv = ov ∧ Fo Vw.heap.size wx fv (fs5 ++ flt 4 v.np v.f4b i) ∧ NoW Vw wx)
                      case atStart => exact ⟨0, _, by omega, by omega, rfl, rfl, by simpa [flt] using HO.out, HX.out⟩
                      case round =>
                        clear HO HX
                        obtain ⟨i, fv, hi, hg, rfl, rfl, hO, hN⟩ := hrel
                        have Hg := Lib.hid hg
                        have HX := Lib.hid hN
                        have HO := Lib.hid hO
                        clear hg hN hO
                        by_cases hlt1 : i < v.ns
                        · skip
                          have pk1 : decide ((i : Int) < (v.ns : Int)) = true := decide_eq_true (by omega)
                          have ck1 : (i : Int) < (v.ns : Int) := by omega
                          have B_V := hid_blk B0 HX.out
                          have c0 := cell_at B_V 0 rfl
                          have c1 := cell_at B_V 1 rfl
                          have c2 := cell_at B_V 2 rfl
                          have c3 := cell_at B_V 3 rfl
                          have c4 := cell_at B_V 4 rfl
                          have c5 := cell_at B_V 5 rfl
                          have c6 := cell_at B_V 6 rfl
                          have c7 := cell_at B_V 7 rfl
                          have lV := hid_lt B_V
                          go_wp2_with fail
                          refine (rlacks_ok v _ _ _ _ _ _ _ _ hs hg i hlt1 hnp HHn.out w0 _ HS.out HP.out HHo.out (HW0.out.trans (HV0.out.trans HX.out (fun _ _ h => h)) (fun _ _ h => h))).mono ?_
                          rintro e zw ⟨rfl, hp⟩
                          replace HX := hid_now HX hp
                          replace HO := Lib.hid (HO.out.low hp)
                          clear hp
                          clear B_V lV c0 c1 c2 c3 c4 c5 c6 c7
                          have B_V := hid_blk B0 HX.out
                          have c3 := cell_at B_V 3 rfl
                          have lV := hid_lt B_V
                          have s1 : IntKind.i64.wrap ((v.np : Int) + (i : Int)) = (v.np : Int) + (i : Int) := IntWalk.i64_in _ (by omega)
                          rcases hb : v.f4b i with _ | _
                          · have Hb := Lib.hid hb
                            clear hb
                            go_wp2_with fail
                            go_roundg (v.ns - i)
                            case measure => have := Hg.out; omega
                            case rel => exact ⟨i + 1, fv, by omega, by omega, by go_num, rfl, by rw [flt_no Hb.out]; exact HO.out, HX.out⟩
                          · have Hb := Lib.hid hb
                            clear hb
                            go_wp2_with (at_builtin; go_must (refine wp_append1 rfl _ _ 33 rfl Vw.heap.size 62 foundZ 2 Tryz.underlying33 infoRFound rfl (by decide) fv (fs5 ++ flt 4 (v.np : Int) v.f4b i).length (flatF (fs5 ++ flt 4 (v.np : Int) v.f4b i)) rfl (HO.out.low ((Fp.refl (fun _ => False) zw).alloc _)) zw.heap.size [.int .i64 4, .int .i64 ((v.np : Int) + (i : Int))] rfl rfl ?_ (by simp [Value.oneCell']) (by have h1 := HLen.out; have h2 := flt_len 4 (v.np : Int) v.f4b i; (try simp only [List.length_append]); omega) ?_ ?_))
                            · exact heap_alloc_new zw _
                            · exact Nat.le_trans HX.out.size (((Fp.refl (fun _ => False) zw).alloc _).size)
                            intro v' w' hown hgr _ _
                            have hf : NoW Vw w' := (HX.out.trans ((Fp.refl (fun _ => False) zw).alloc (.cells #[.int .i64 4, .int .i64 ((v.np : Int) + (i : Int))] 62)) (fun _ _ h => h)).grown hgr (fun x e => Or.inl (World.ownsRow.lt HO.out x e).1)
                            have HO2 := Lib.hid (Fo.add (fs := fs5 ++ flt 4 (v.np : Int) v.f4b i) (k := 4) (a := (v.np : Int) + (i : Int)) (by first | exact hown | (simp only [List.length_append]; exact hown)))
                            have HX2 := Lib.hid hf
                            clear hown hgr hf
                            go_wp2_with fail
                            go_roundg (v.ns - i)
                            case measure => have := Hg.out; omega
                            case rel => exact ⟨i + 1, v', by omega, by omega, by go_num, rfl, by rw [flt_yes Hb.out]; exact HO2.out, HX2.out⟩
                        · obtain rfl : i = v.ns := by omega
                          have pk : decide ((v.ns : Int) < (v.ns : Int)) = false := decide_eq_false (by omega)
                          have B_V := hid_blk B0 HX.out
                          have c1 := cell_at B_V 1 rfl
                          have lV := hid_lt B_V
                          go_wp2_with fail
                          clear B_V lV c1 pk
                          obtain ⟨fs6, hfs⟩ : ∃ l, l = fs5 ++ flt 4 v.np v.f4b v.ns := ⟨_, rfl⟩
                          rw [← hfs] at HO
                          have HE6 := Lib.hid hfs
                          have HLen := Lib.hid (show fs6.length ≤ 600 from by have h1 := HLen.out; have h2 := flt_len 4 v.np v.f4b v.ns; rw [hfs]; simp only [List.length_append]; omega)
                          clear hfs Hg hi hlt1
                          go_loopg [12, 3, 11] (v.ns + 1) (fun gg7 iv ov uv wx => ∃ (i : Nat) (fv : Value) (N : Nat), i ≤ v.ns ∧ gg7 = v.ns + 1 - i ∧ iv = .int .i64 (i : Int) ∧ fv = ov ∧ uv = .int .i64 (N : Int) ∧ N = cntR i (fun i => (v.S i).used) ∧ Fo Vw.heap.size wx fv (fs6 ++ flt 5 0 v.f5 i) ∧ NoW Vw wx)
                          case atStart => exact ⟨0, _, 0, by omega, by omega, rfl, rfl, rfl, rfl, by simpa [flt] using HO.out, HX.out⟩
                          case round =>
                            clear HO HX
                            obtain ⟨i, fv, N, hi, hg, rfl, rfl, rfl, hNN, hO, hN⟩ := hrel
                            have Hg := Lib.hid hg
                            have HX := Lib.hid hN
                            have HO := Lib.hid hO
                            have HNN := Lib.hid hNN
                            have hNl : N ≤ i := by have := cntR_le i (fun i => (v.S i).used); omega
                            clear hg hN hO hNN
                            by_cases hlt1 : i < v.ns
                            · skip
                              have pk1 : decide ((i : Int) < (v.ns : Int)) = true := decide_eq_true (by omega)
                              have ck1 : (i : Int) < (v.ns : Int) := by omega
                              have B_V := hid_blk B0 HX.out
                              have c0 := cell_at B_V 0 rfl
                              have c1 := cell_at B_V 1 rfl
                              have c2 := cell_at B_V 2 rfl
                              have c3 := cell_at B_V 3 rfl
                              have c4 := cell_at B_V 4 rfl
                              have c5 := cell_at B_V 5 rfl
                              have c6 := cell_at B_V 6 rfl
                              have c7 := cell_at B_V 7 rfl
                              have lV := hid_lt B_V
                              go_wp2_with fail
                              refine (rwaits_ok v _ _ _ _ _ _ _ _ hs hg i hlt1 hnq w0 _ HS.out HQ.out (HW0.out.trans (HV0.out.trans HX.out (fun _ _ h => h)) (fun _ _ h => h))).mono ?_
                              rintro e zw ⟨rfl, hp⟩
                              replace HX := hid_now HX hp
                              replace HO := Lib.hid (HO.out.low hp)
                              clear hp
                              clear B_V lV c0 c1 c2 c3 c4 c5 c6 c7
                              obtain ⟨b1, o1, hs1, lb1, xc⟩ := (HS.out.low (HW0.out.trans (HV0.out.trans HX.out (fun _ _ h => h)) (fun _ _ h => h))) i hlt1
                              subst hs1
                              have x0 : zw.cell? ⟨b1, o1 + i * 18, none⟩ = some (.bool (v.S i).used) := xc 0 _ rfl
                              clear xc
                              obtain ⟨us, hus⟩ : ∃ b, (v.S i).used = b := ⟨_, rfl⟩
                              rw [hus] at x0
                              have hst : (cntR (i + 1) (fun i => (v.S i).used)) = N + if us then 1 else 0 := by rw [cntR_succ, hus, HNN.out]
                              have HSt := Lib.hid hst
                              have Hus := Lib.hid hus; clear hst hus
                              rcases hb : v.f5 i with _ | _
                              · have Hb := Lib.hid hb
                                clear hb
                                have B_V := hid_blk B0 HX.out
                                have c1 := cell_at B_V 1 rfl
                                have lV := hid_lt B_V
                                cases us with
                                | false =>
                                  go_wp2_with fail
                                  go_roundg (v.ns - i)
                                  case measure => have := Hg.out; omega
                                  case rel => exact ⟨i + 1, fv, N, by omega, by omega, by go_num, rfl, rfl, by rw [HSt.out]; rfl, by rw [flt_no Hb.out]; exact HO.out, HX.out⟩
                                | true =>
                                  go_wp2_with fail
                                  go_roundg (v.ns - i)
                                  case measure => have := Hg.out; omega
                                  case rel => exact ⟨i + 1, fv, N + 1, by omega, by omega, by go_num, rfl, by go_num, by rw [HSt.out]; rfl, by rw [flt_no Hb.out]; exact HO.out, HX.out⟩
                              · have Hb := Lib.hid hb
                                clear hb
                                go_wp2_with (at_builtin; go_must (refine wp_append1 rfl _ _ 33 rfl Vw.heap.size 62 foundZ 2 Tryz.underlying33 infoRFound rfl (by decide) fv (fs6 ++ flt 5 0 v.f5 i).length (flatF (fs6 ++ flt 5 0 v.f5 i)) rfl (HO.out.low ((Fp.refl (fun _ => False) zw).alloc _)) zw.heap.size [.int .i64 5, .int .i64 (i)] rfl rfl ?_ (by simp [Value.oneCell']) (by have h1 := HLen.out; have h2 := flt_len 5 0 v.f5 i; (try simp only [List.length_append]); omega) ?_ ?_))
                                · exact heap_alloc_new zw _
                                · exact Nat.le_trans HX.out.size (((Fp.refl (fun _ => False) zw).alloc _).size)
                                intro v' w' hown hgr _ _
                                have hf : NoW Vw w' := (HX.out.trans ((Fp.refl (fun _ => False) zw).alloc (.cells #[.int .i64 5, .int .i64 (i)] 62)) (fun _ _ h => h)).grown hgr (fun x e => Or.inl (World.ownsRow.lt HO.out x e).1)
                                have HO2 := Lib.hid (Fo.add (fs := fs6 ++ flt 5 0 v.f5 i) (k := 5) (a := i) (by first | exact hown | (simp only [List.length_append]; exact hown)))
                                have HX2 := Lib.hid hf
                                clear hown hgr hf
                                have B_V := hid_blk B0 HX2.out
                                have c1 := cell_at B_V 1 rfl
                                have lV := hid_lt B_V
                                obtain ⟨b2, o2, hs2, lb2, xc⟩ := (HS.out.low (HW0.out.trans (HV0.out.trans HX2.out (fun _ _ h => h)) (fun _ _ h => h))) i hlt1
                                injection hs2 with hs2
                                injection hs2 with hs21 hs22 _
                                subst hs21 hs22
                                clear x0
                                have x0 : w'.cell? ⟨b1, o1 + i * 18, none⟩ = some (.bool (v.S i).used) := xc 0 _ rfl
                                clear xc
                                rw [Hus.out] at x0
                                cases us with
                                | false =>
                                  go_wp2_with fail
                                  go_roundg (v.ns - i)
                                  case measure => have := Hg.out; omega
                                  case rel => exact ⟨i + 1, v', N, by omega, by omega, by go_num, rfl, rfl, by rw [HSt.out]; rfl, by rw [flt0_yes Hb.out]; exact HO2.out, HX2.out⟩
                                | true =>
                                  go_wp2_with fail
                                  go_roundg (v.ns - i)
                                  case measure => have := Hg.out; omega
                                  case rel => exact ⟨i + 1, v', N + 1, by omega, by omega, by go_num, rfl, by go_num, by rw [HSt.out]; rfl, by rw [flt0_yes Hb.out]; exact HO2.out, HX2.out⟩
                            · obtain rfl : i = v.ns := by omega
                              have pk : decide ((v.ns : Int) < (v.ns : Int)) = false := decide_eq_false (by omega)
                              obtain ⟨fs7, hfs⟩ : ∃ l, l = fs6 ++ flt 5 0 v.f5 v.ns := ⟨_, rfl⟩
                              rw [← hfs] at HO
                              have HE7 := Lib.hid hfs
                              have HLen := Lib.hid (show fs7.length ≤ 700 from by have h1 := HLen.out; have h2 := flt_len 5 0 v.f5 v.ns; rw [hfs]; simp only [List.length_append]; omega)
                              have hU : v.nUsed = N := HNN.out.symm
                              have HU := Lib.hid hU
                              clear hfs Hg hi hlt1 hU
                              rcases h1 : ((N : Int) == v.live) with _ | _
                              · skip
                                have HF6 := Lib.hid (show v.f6 = true from by simp only [VD.f6, HU.out]; have := beq_eq_false_iff_ne.1 h1; simp [this])
                                have h1n : (v.live != (N : Int)) = true := by have := beq_eq_false_iff_ne.1 h1; simp only [bne, Bool.not_eq_true']; exact beq_eq_false_iff_ne.2 (fun e => this e.symm)
                                clear h1
                                have B_V := hid_blk B0 HX.out
                                have c1 := cell_at B_V 1 rfl
                                have c5 := cell_at B_V 5 rfl
                                have c6 := cell_at B_V 6 rfl
                                have c7 := cell_at B_V 7 rfl
                                have lV := hid_lt B_V
                                go_wp2_with (at_builtin; go_must (refine wp_append1 rfl _ _ 33 rfl Vw.heap.size 62 foundZ 2 Tryz.underlying33 infoRFound rfl (by decide) fv (fs7).length (flatF (fs7)) rfl (HO.out.low ((Fp.refl (fun _ => False) wr).alloc _)) wr.heap.size [.int .i64 6, .int .i64 (0)] rfl rfl ?_ (by simp [Value.oneCell']) (by have h1 := HLen.out; (try simp only [List.length_append]); omega) ?_ ?_))
                                · exact heap_alloc_new wr _
                                · exact Nat.le_trans HX.out.size (((Fp.refl (fun _ => False) wr).alloc _).size)
                                intro v' w' hown hgr _ _
                                have hf : NoW Vw w' := (HX.out.trans ((Fp.refl (fun _ => False) wr).alloc (.cells #[.int .i64 6, .int .i64 (0)] 62)) (fun _ _ h => h)).grown hgr (fun x e => Or.inl (World.ownsRow.lt HO.out x e).1)
                                have HO2 := Lib.hid (Fo.add (fs := fs7) (k := 6) (a := 0) (by first | exact hown | (simp only [List.length_append]; exact hown)))
                                have HX2 := Lib.hid hf
                                clear hown hgr hf
                                go_wp2_with fail
                                go_ret
                                refine ⟨v', rfl, ?_, HV0.out.trans HX2.out (fun _ _ h => h)⟩
                                have e : v.faults = fs7 ++ (if v.f6 then [(6, 0)] else []) := by rw [HE7.out, HE6.out, HE5.out, HE4.out, HE3.out, HE2.out, HE1.out]; unfold VD.faults; simp only [List.nil_append]
                                rw [e, HF6.out]
                                have h9 := ownsRow_mono HO2.out HV0.out.size
                                simpa using h9
                              · skip
                                rcases h2 : decide (v.free < 0) with _ | _
                                · skip
                                  rcases h3 : decide (v.gone < 0) with _ | _
                                  · skip
                                    rcases h4 : decide ((v.ns : Int) < v.free) with _ | _
                                    · skip
                                      rcases h5 : decide ((v.ns : Int) < v.gone) with _ | _
                                      · skip
                                        rcases h6 : (v.free + v.live + v.gone == (v.ns : Int)) with _ | _
                                        · skip
                                          have HF6 := Lib.hid (show v.f6 = true from by simp only [VD.f6, HU.out]; have e1 := beq_iff_eq.1 h1; have e2 := of_decide_eq_false h2; have e3 := of_decide_eq_false h3; have e4 := of_decide_eq_false h4; have e5 := of_decide_eq_false h5; have e6 := beq_eq_false_iff_ne.1 h6; simp; omega)
                                          have h1n : (v.live != (N : Int)) = false := by have := beq_iff_eq.1 h1; simp only [bne, this]; simp
                                          have e2 := of_decide_eq_false h2
                                          have e3 := of_decide_eq_false h3
                                          have e4 := of_decide_eq_false h4
                                          have e5 := of_decide_eq_false h5
                                          have e1 := beq_iff_eq.1 h1
                                          have s1 : IntKind.i64.wrap (v.free + v.live) = v.free + v.live := IntWalk.i64_in _ (by omega)
                                          have s2 : IntKind.i64.wrap (v.free + v.live + v.gone) = v.free + v.live + v.gone := IntWalk.i64_in _ (by omega)
                                          clear e1 e2 e3 e4 e5
                                          have h6n : (v.free + v.live + v.gone != (v.ns : Int)) = true := by simp only [bne, h6]; rfl
                                          clear h1
                                          have B_V := hid_blk B0 HX.out
                                          have c1 := cell_at B_V 1 rfl
                                          have c5 := cell_at B_V 5 rfl
                                          have c6 := cell_at B_V 6 rfl
                                          have c7 := cell_at B_V 7 rfl
                                          have lV := hid_lt B_V
                                          go_wp2_with (at_builtin; go_must (refine wp_append1 rfl _ _ 33 rfl Vw.heap.size 62 foundZ 2 Tryz.underlying33 infoRFound rfl (by decide) fv (fs7).length (flatF (fs7)) rfl (HO.out.low ((Fp.refl (fun _ => False) wr).alloc _)) wr.heap.size [.int .i64 6, .int .i64 (0)] rfl rfl ?_ (by simp [Value.oneCell']) (by have h1 := HLen.out; (try simp only [List.length_append]); omega) ?_ ?_))
                                          · exact heap_alloc_new wr _
                                          · exact Nat.le_trans HX.out.size (((Fp.refl (fun _ => False) wr).alloc _).size)
                                          intro v' w' hown hgr _ _
                                          have hf : NoW Vw w' := (HX.out.trans ((Fp.refl (fun _ => False) wr).alloc (.cells #[.int .i64 6, .int .i64 (0)] 62)) (fun _ _ h => h)).grown hgr (fun x e => Or.inl (World.ownsRow.lt HO.out x e).1)
                                          have HO2 := Lib.hid (Fo.add (fs := fs7) (k := 6) (a := 0) (by first | exact hown | (simp only [List.length_append]; exact hown)))
                                          have HX2 := Lib.hid hf
                                          clear hown hgr hf
                                          go_wp2_with fail
                                          go_ret
                                          refine ⟨v', rfl, ?_, HV0.out.trans HX2.out (fun _ _ h => h)⟩
                                          have e : v.faults = fs7 ++ (if v.f6 then [(6, 0)] else []) := by rw [HE7.out, HE6.out, HE5.out, HE4.out, HE3.out, HE2.out, HE1.out]; unfold VD.faults; simp only [List.nil_append]
                                          rw [e, HF6.out]
                                          have h9 := ownsRow_mono HO2.out HV0.out.size
                                          simpa using h9
                                        · skip
                                          have HF6 := Lib.hid (show v.f6 = false from by simp only [VD.f6, HU.out]; have e1 := beq_iff_eq.1 h1; have e2 := of_decide_eq_false h2; have e3 := of_decide_eq_false h3; have e4 := of_decide_eq_false h4; have e5 := of_decide_eq_false h5; have e6 := beq_iff_eq.1 h6; simp; omega)
                                          have h1n : (v.live != (N : Int)) = false := by have := beq_iff_eq.1 h1; simp only [bne, this]; simp
                                          have e2 := of_decide_eq_false h2
                                          have e3 := of_decide_eq_false h3
                                          have e4 := of_decide_eq_false h4
                                          have e5 := of_decide_eq_false h5
                                          have e1 := beq_iff_eq.1 h1
                                          have s1 : IntKind.i64.wrap (v.free + v.live) = v.free + v.live := IntWalk.i64_in _ (by omega)
                                          have s2 : IntKind.i64.wrap (v.free + v.live + v.gone) = v.free + v.live + v.gone := IntWalk.i64_in _ (by omega)
                                          clear e1 e2 e3 e4 e5
                                          have h6n : (v.free + v.live + v.gone != (v.ns : Int)) = false := by simp only [bne, h6]; rfl
                                          clear h1
                                          have B_V := hid_blk B0 HX.out
                                          have c1 := cell_at B_V 1 rfl
                                          have c5 := cell_at B_V 5 rfl
                                          have c6 := cell_at B_V 6 rfl
                                          have c7 := cell_at B_V 7 rfl
                                          have lV := hid_lt B_V
                                          go_wp2_with fail
                                          go_ret
                                          refine ⟨fv, rfl, ?_, HV0.out.trans HX.out (fun _ _ h => h)⟩
                                          have e : v.faults = fs7 ++ (if v.f6 then [(6, 0)] else []) := by rw [HE7.out, HE6.out, HE5.out, HE4.out, HE3.out, HE2.out, HE1.out]; unfold VD.faults; simp only [List.nil_append]
                                          rw [e, HF6.out]
                                          have h9 := ownsRow_mono HO.out HV0.out.size
                                          simpa using h9
                                      · skip
                                        have HF6 := Lib.hid (show v.f6 = true from by simp only [VD.f6, HU.out]; have e1 := beq_iff_eq.1 h1; have e2 := of_decide_eq_false h2; have e3 := of_decide_eq_false h3; have e4 := of_decide_eq_false h4; have e5 := of_decide_eq_true h5; simp; omega)
                                        have h1n : (v.live != (N : Int)) = false := by have := beq_iff_eq.1 h1; simp only [bne, this]; simp
                                        clear h1
                                        have B_V := hid_blk B0 HX.out
                                        have c1 := cell_at B_V 1 rfl
                                        have c5 := cell_at B_V 5 rfl
                                        have c6 := cell_at B_V 6 rfl
                                        have c7 := cell_at B_V 7 rfl
                                        have lV := hid_lt B_V
                                        go_wp2_with (at_builtin; go_must (refine wp_append1 rfl _ _ 33 rfl Vw.heap.size 62 foundZ 2 Tryz.underlying33 infoRFound rfl (by decide) fv (fs7).length (flatF (fs7)) rfl (HO.out.low ((Fp.refl (fun _ => False) wr).alloc _)) wr.heap.size [.int .i64 6, .int .i64 (0)] rfl rfl ?_ (by simp [Value.oneCell']) (by have h1 := HLen.out; (try simp only [List.length_append]); omega) ?_ ?_))
                                        · exact heap_alloc_new wr _
                                        · exact Nat.le_trans HX.out.size (((Fp.refl (fun _ => False) wr).alloc _).size)
                                        intro v' w' hown hgr _ _
                                        have hf : NoW Vw w' := (HX.out.trans ((Fp.refl (fun _ => False) wr).alloc (.cells #[.int .i64 6, .int .i64 (0)] 62)) (fun _ _ h => h)).grown hgr (fun x e => Or.inl (World.ownsRow.lt HO.out x e).1)
                                        have HO2 := Lib.hid (Fo.add (fs := fs7) (k := 6) (a := 0) (by first | exact hown | (simp only [List.length_append]; exact hown)))
                                        have HX2 := Lib.hid hf
                                        clear hown hgr hf
                                        go_wp2_with fail
                                        go_ret
                                        refine ⟨v', rfl, ?_, HV0.out.trans HX2.out (fun _ _ h => h)⟩
                                        have e : v.faults = fs7 ++ (if v.f6 then [(6, 0)] else []) := by rw [HE7.out, HE6.out, HE5.out, HE4.out, HE3.out, HE2.out, HE1.out]; unfold VD.faults; simp only [List.nil_append]
                                        rw [e, HF6.out]
                                        have h9 := ownsRow_mono HO2.out HV0.out.size
                                        simpa using h9
                                    · skip
                                      have HF6 := Lib.hid (show v.f6 = true from by simp only [VD.f6, HU.out]; have e1 := beq_iff_eq.1 h1; have e2 := of_decide_eq_false h2; have e3 := of_decide_eq_false h3; have e4 := of_decide_eq_true h4; simp; omega)
                                      have h1n : (v.live != (N : Int)) = false := by have := beq_iff_eq.1 h1; simp only [bne, this]; simp
                                      clear h1
                                      have B_V := hid_blk B0 HX.out
                                      have c1 := cell_at B_V 1 rfl
                                      have c5 := cell_at B_V 5 rfl
                                      have c6 := cell_at B_V 6 rfl
                                      have c7 := cell_at B_V 7 rfl
                                      have lV := hid_lt B_V
                                      go_wp2_with (at_builtin; go_must (refine wp_append1 rfl _ _ 33 rfl Vw.heap.size 62 foundZ 2 Tryz.underlying33 infoRFound rfl (by decide) fv (fs7).length (flatF (fs7)) rfl (HO.out.low ((Fp.refl (fun _ => False) wr).alloc _)) wr.heap.size [.int .i64 6, .int .i64 (0)] rfl rfl ?_ (by simp [Value.oneCell']) (by have h1 := HLen.out; (try simp only [List.length_append]); omega) ?_ ?_))
                                      · exact heap_alloc_new wr _
                                      · exact Nat.le_trans HX.out.size (((Fp.refl (fun _ => False) wr).alloc _).size)
                                      intro v' w' hown hgr _ _
                                      have hf : NoW Vw w' := (HX.out.trans ((Fp.refl (fun _ => False) wr).alloc (.cells #[.int .i64 6, .int .i64 (0)] 62)) (fun _ _ h => h)).grown hgr (fun x e => Or.inl (World.ownsRow.lt HO.out x e).1)
                                      have HO2 := Lib.hid (Fo.add (fs := fs7) (k := 6) (a := 0) (by first | exact hown | (simp only [List.length_append]; exact hown)))
                                      have HX2 := Lib.hid hf
                                      clear hown hgr hf
                                      go_wp2_with fail
                                      go_ret
                                      refine ⟨v', rfl, ?_, HV0.out.trans HX2.out (fun _ _ h => h)⟩
                                      have e : v.faults = fs7 ++ (if v.f6 then [(6, 0)] else []) := by rw [HE7.out, HE6.out, HE5.out, HE4.out, HE3.out, HE2.out, HE1.out]; unfold VD.faults; simp only [List.nil_append]
                                      rw [e, HF6.out]
                                      have h9 := ownsRow_mono HO2.out HV0.out.size
                                      simpa using h9
                                  · skip
                                    have HF6 := Lib.hid (show v.f6 = true from by simp only [VD.f6, HU.out]; have e1 := beq_iff_eq.1 h1; have e2 := of_decide_eq_false h2; have e3 := of_decide_eq_true h3; simp; omega)
                                    have h1n : (v.live != (N : Int)) = false := by have := beq_iff_eq.1 h1; simp only [bne, this]; simp
                                    clear h1
                                    have B_V := hid_blk B0 HX.out
                                    have c1 := cell_at B_V 1 rfl
                                    have c5 := cell_at B_V 5 rfl
                                    have c6 := cell_at B_V 6 rfl
                                    have c7 := cell_at B_V 7 rfl
                                    have lV := hid_lt B_V
                                    go_wp2_with (at_builtin; go_must (refine wp_append1 rfl _ _ 33 rfl Vw.heap.size 62 foundZ 2 Tryz.underlying33 infoRFound rfl (by decide) fv (fs7).length (flatF (fs7)) rfl (HO.out.low ((Fp.refl (fun _ => False) wr).alloc _)) wr.heap.size [.int .i64 6, .int .i64 (0)] rfl rfl ?_ (by simp [Value.oneCell']) (by have h1 := HLen.out; (try simp only [List.length_append]); omega) ?_ ?_))
                                    · exact heap_alloc_new wr _
                                    · exact Nat.le_trans HX.out.size (((Fp.refl (fun _ => False) wr).alloc _).size)
                                    intro v' w' hown hgr _ _
                                    have hf : NoW Vw w' := (HX.out.trans ((Fp.refl (fun _ => False) wr).alloc (.cells #[.int .i64 6, .int .i64 (0)] 62)) (fun _ _ h => h)).grown hgr (fun x e => Or.inl (World.ownsRow.lt HO.out x e).1)
                                    have HO2 := Lib.hid (Fo.add (fs := fs7) (k := 6) (a := 0) (by first | exact hown | (simp only [List.length_append]; exact hown)))
                                    have HX2 := Lib.hid hf
                                    clear hown hgr hf
                                    go_wp2_with fail
                                    go_ret
                                    refine ⟨v', rfl, ?_, HV0.out.trans HX2.out (fun _ _ h => h)⟩
                                    have e : v.faults = fs7 ++ (if v.f6 then [(6, 0)] else []) := by rw [HE7.out, HE6.out, HE5.out, HE4.out, HE3.out, HE2.out, HE1.out]; unfold VD.faults; simp only [List.nil_append]
                                    rw [e, HF6.out]
                                    have h9 := ownsRow_mono HO2.out HV0.out.size
                                    simpa using h9
                                · skip
                                  have HF6 := Lib.hid (show v.f6 = true from by simp only [VD.f6, HU.out]; have e1 := beq_iff_eq.1 h1;  have e2 := of_decide_eq_true h2; simp; omega)
                                  have h1n : (v.live != (N : Int)) = false := by have := beq_iff_eq.1 h1; simp only [bne, this]; simp
                                  clear h1
                                  have B_V := hid_blk B0 HX.out
                                  have c1 := cell_at B_V 1 rfl
                                  have c5 := cell_at B_V 5 rfl
                                  have c6 := cell_at B_V 6 rfl
                                  have c7 := cell_at B_V 7 rfl
                                  have lV := hid_lt B_V
                                  go_wp2_with (at_builtin; go_must (refine wp_append1 rfl _ _ 33 rfl Vw.heap.size 62 foundZ 2 Tryz.underlying33 infoRFound rfl (by decide) fv (fs7).length (flatF (fs7)) rfl (HO.out.low ((Fp.refl (fun _ => False) wr).alloc _)) wr.heap.size [.int .i64 6, .int .i64 (0)] rfl rfl ?_ (by simp [Value.oneCell']) (by have h1 := HLen.out; (try simp only [List.length_append]); omega) ?_ ?_))
                                  · exact heap_alloc_new wr _
                                  · exact Nat.le_trans HX.out.size (((Fp.refl (fun _ => False) wr).alloc _).size)
                                  intro v' w' hown hgr _ _
                                  have hf : NoW Vw w' := (HX.out.trans ((Fp.refl (fun _ => False) wr).alloc (.cells #[.int .i64 6, .int .i64 (0)] 62)) (fun _ _ h => h)).grown hgr (fun x e => Or.inl (World.ownsRow.lt HO.out x e).1)
                                  have HO2 := Lib.hid (Fo.add (fs := fs7) (k := 6) (a := 0) (by first | exact hown | (simp only [List.length_append]; exact hown)))
                                  have HX2 := Lib.hid hf
                                  clear hown hgr hf
                                  go_wp2_with fail
                                  go_ret
                                  refine ⟨v', rfl, ?_, HV0.out.trans HX2.out (fun _ _ h => h)⟩
                                  have e : v.faults = fs7 ++ (if v.f6 then [(6, 0)] else []) := by rw [HE7.out, HE6.out, HE5.out, HE4.out, HE3.out, HE2.out, HE1.out]; unfold VD.faults; simp only [List.nil_append]
                                  rw [e, HF6.out]
                                  have h9 := ownsRow_mono HO2.out HV0.out.size
                                  simpa using h9
end Go.Proofs.YtcimbbllefkdlaaGreatDoor
