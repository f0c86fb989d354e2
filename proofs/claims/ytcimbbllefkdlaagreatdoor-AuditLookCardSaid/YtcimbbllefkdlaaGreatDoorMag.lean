/- Texts of this proof, merged: Awh Str Awi Sees EnL ErA EnP ErV AuD. -/
import Derived.Test.YtcimbbllefkdlaaGreatDoorMaf
import Derived.Test.YtcimbbllefkdlaaGreatDoorMaa
import Derived.Deep.WholeRow
import Derived.Laws.Cells
import Derived.ProofKit
import Derived.OpenShut
import Derived.ShutString
import Derived.ChangeOld
import Derived.Test.YtcimbbllefkdlaaGreatDoorMad
import Derived.Test.YtcimbbllefkdlaaGreatDoorMab
import Derived.Test.YtcimbbllefkdlaaGreatDoorMac
import Derived.Test.YtcimbbllefkdlaaGreatDoorMae
namespace Go.Proofs.YtcimbbllefkdlaaGreatDoor
set_option linter.unusedVariables false
set_option linter.unusedSimpArgs false
open Go.RowKit Go.Lib
section
variable {w w' : World} {g tb sl ss bc bf bm ep pt p1 p2 : Nat} {wv : Value} {o ip : Nat} {bits : Int} {ns nb : Nat}
set_option maxRecDepth 100000 in
theorem slab_none (n sl : Nat) (h1 : 1 ≤ n) (w : World) (B_s : Hid (w.heap[sl]? = some (.cells (slabK n 256).toArray 160 (0, 0)))) : Calls Tryz.prog 88 #[.pointer (some ⟨sl, 0, none⟩)] w (Ret1 (.bool false) w) := by
  have c0 : w.cell? ⟨sl, 512, none⟩ = some (.int .i64 n) := cell_at B_s 512 (slabK_tail n 256 0)
  have lg := hid_lt B_s
  have hn : ¬ n = 0 := by omega
  have hn2 : ¬ (n : Int) = 0 := by omega
  go_enter Tryz.func88, Tryz.ntmps88
  go_wp2_with fail
  go_ret
  exact ⟨by simp [hn], Fp.refl _ _⟩
set_option maxRecDepth 100000 in
theorem slab_count (n sl : Nat) (h1 : 1 ≤ n) (w : World) (B_s : Hid (w.heap[sl]? = some (.cells (slabK n 256).toArray 160 (0, 0)))) : Calls Tryz.prog 65 #[.pointer (some ⟨sl, 0, none⟩)] w (Ret1 (.tuple #[.int .i64 n, .int .i64 0, .int .i64 0]) w) := by
  go_enter Tryz.func65, Tryz.ntmps65
  go_wp2_with fail
  refine (slab_none n sl h1 _ B_s).mono ?_
  rintro e z ⟨rfl, hp⟩
  replace B_s := hid_blk B_s hp
  have HN := Lib.hid hp
  clear hp
  have c1 : z.cell? ⟨sl, 513, none⟩ = some (.int .i64 n) := cell_at B_s 513 (slabK_tail n 256 1)
  have c2 : z.cell? ⟨sl, 514, none⟩ = some (.int .i64 0) := cell_at B_s 514 (slabK_tail n 256 2)
  have c3 : z.cell? ⟨sl, 515, none⟩ = some (.int .i64 0) := cell_at B_s 515 (slabK_tail n 256 3)
  have lg := hid_lt B_s
  go_upto_region 3 with fail
  refine wp_region_held_drew (S := fun wx => NoW z wx) (by kernel_rfl) (Fp.drew (Fp.refl _ _)) (fun hHeld => ?_)
  (refine tk 0 (some 7) ?_ ?_ ?_; rotate_left; (focus (intro wS hSw; go_simp; try with_reducible rfl)); (try simp only [Act.put, List.setIfInBounds_toArray, List.set_cons_zero, List.set_cons_succ]))
  (refine tk 1 (some 8) ?_ ?_ ?_; rotate_left; (focus (intro wS hSw; go_simp; try with_reducible rfl)); (try simp only [Act.put, List.setIfInBounds_toArray, List.set_cons_zero, List.set_cons_succ]))
  (refine tk 2 (some 9) ?_ ?_ ?_; rotate_left; (focus (intro wS hSw; go_simp; try with_reducible rfl)); (try simp only [Act.put, List.setIfInBounds_toArray, List.set_cons_zero, List.set_cons_succ]))
  (refine tk 3 (some 10) ?_ ?_ ?_; rotate_left; (focus (intro wS hSw; go_simp; try with_reducible rfl)); (try simp only [Act.put, List.setIfInBounds_toArray, List.set_cons_zero, List.set_cons_succ]))
  (refine tk 4 (some 11) ?_ ?_ ?_; rotate_left; (focus (intro wS hSw; (have q := (hSw.cell (p := ⟨sl, 513, none⟩) lg id).trans c1); go_simp; try with_reducible rfl)); (try simp only [Act.put, List.setIfInBounds_toArray, List.set_cons_zero, List.set_cons_succ]))
  (refine tk 5 (some 12) ?_ ?_ ?_; rotate_left; (focus (intro wS hSw; go_simp; try with_reducible rfl)); (try simp only [Act.put, List.setIfInBounds_toArray, List.set_cons_zero, List.set_cons_succ]))
  (refine tk 6 (some 13) ?_ ?_ ?_; rotate_left; (focus (intro wS hSw; go_simp; try with_reducible rfl)); (try simp only [Act.put, List.setIfInBounds_toArray, List.set_cons_zero, List.set_cons_succ]))
  (refine tk 7 (some 14) ?_ ?_ ?_; rotate_left; (focus (intro wS hSw; go_simp; try with_reducible rfl)); (try simp only [Act.put, List.setIfInBounds_toArray, List.set_cons_zero, List.set_cons_succ]))
  (refine tk 8 (some 15) ?_ ?_ ?_; rotate_left; (focus (intro wS hSw; go_simp; try with_reducible rfl)); (try simp only [Act.put, List.setIfInBounds_toArray, List.set_cons_zero, List.set_cons_succ]))
  (refine tk 9 (some 16) ?_ ?_ ?_; rotate_left; (focus (intro wS hSw; (have q := (hSw.cell (p := ⟨sl, 514, none⟩) lg id).trans c2); go_simp; try with_reducible rfl)); (try simp only [Act.put, List.setIfInBounds_toArray, List.set_cons_zero, List.set_cons_succ]))
  (refine tk 10 (some 17) ?_ ?_ ?_; rotate_left; (focus (intro wS hSw; go_simp; try with_reducible rfl)); (try simp only [Act.put, List.setIfInBounds_toArray, List.set_cons_zero, List.set_cons_succ]))
  (refine tk 11 (some 18) ?_ ?_ ?_; rotate_left; (focus (intro wS hSw; go_simp; try with_reducible rfl)); (try simp only [Act.put, List.setIfInBounds_toArray, List.set_cons_zero, List.set_cons_succ]))
  (refine tk 12 (some 19) ?_ ?_ ?_; rotate_left; (focus (intro wS hSw; go_simp; try with_reducible rfl)); (try simp only [Act.put, List.setIfInBounds_toArray, List.set_cons_zero, List.set_cons_succ]))
  (refine tk 13 (some 20) ?_ ?_ ?_; rotate_left; (focus (intro wS hSw; go_simp; try with_reducible rfl)); (try simp only [Act.put, List.setIfInBounds_toArray, List.set_cons_zero, List.set_cons_succ]))
  (refine tk 14 (some 21) ?_ ?_ ?_; rotate_left; (focus (intro wS hSw; (have q := (hSw.cell (p := ⟨sl, 515, none⟩) lg id).trans c3); go_simp; try with_reducible rfl)); (try simp only [Act.put, List.setIfInBounds_toArray, List.set_cons_zero, List.set_cons_succ]))
  (refine tk 15 (some 2) ?_ ?_ ?_; rotate_left; (focus (intro wS hSw; go_simp; try with_reducible rfl)); (try simp only [Act.put, List.setIfInBounds_toArray, List.set_cons_zero, List.set_cons_succ]))
  (refine tk 16 (some 3) ?_ ?_ ?_; rotate_left; (focus (intro wS hSw; go_simp; try with_reducible rfl)); (try simp only [Act.put, List.setIfInBounds_toArray, List.set_cons_zero, List.set_cons_succ]))
  (refine tk 17 (some 4) ?_ ?_ ?_; rotate_left; (focus (intro wS hSw; go_simp; try with_reducible rfl)); (try simp only [Act.put, List.setIfInBounds_toArray, List.set_cons_zero, List.set_cons_succ]))
  refine wpAnyH_done (by kernel_rfl) ?_ _
  replace HN := hid_now HN hHeld
  clear hHeld c1 c2 c3 lg
  go_wp2_with fail
  refine bodyPost_ret (v := .tuple #[.int .i64 n, .int .i64 0, .int .i64 0]) (by simp only [results, Tryz.results65]; go_simp) rfl ⟨rfl, HN.out⟩
set_option maxRecDepth 100000 in
theorem count_new (h1 : 1 ≤ ns) (h : BoxN w g tb sl ss bc bf bm ep pt p1 p2 wv o ip bits ns nb) : Calls Tryz.prog 37 #[.pointer (some ⟨g, 0, none⟩)] w (Ret1 (.tuple #[.int .i64 ns, .int .i64 0, .int .i64 0]) w) := by
  have H := Lib.hid h
  have B_g := Lib.hid h.g
  clear h
  go_enter Tryz.func37, Tryz.ntmps37
  go_wp2_with fail
  refine (none_new H.out).mono ?_
  rintro e z ⟨rfl, hp⟩
  replace B_g := hid_blk B_g hp
  replace H := Lib.hid (H.out.low hp)
  have HN := Lib.hid hp
  clear hp
  have c3 := cell_at B_g 3 rfl
  have lg := hid_lt B_g
  go_wp2_with fail
  refine (slab_count ns sl h1 _ (Lib.hid H.out.s)).mono ?_
  rintro e z2 ⟨rfl, hp⟩
  replace HN := hid_now HN hp
  clear hp c3 lg
  go_wp2_with fail
  refine bodyPost_ret (v := .tuple #[.int .i64 ns, .int .i64 0, .int .i64 0]) (by simp only [results, Tryz.results37]; go_simp) rfl ⟨rfl, HN.out⟩
theorem clone_nilH (w : World) : Calls Tryz.prog 61 #[.slice none 0 0] w (Ret1 (.slice none 0 0) w) := by
  have q1 : ∀ W, (binOp .eql 25 (.slice none 0 0) (.slice none 0 0)).run Tryz.prog W = .ok (.bool true) W := fun W => Lib.run_eql_slice_nil W _ _ _ 0 0 0 0 Tryz.underlying25
  go_enter Tryz.func61, Tryz.ntmps61
  go_wp2_with fail
  go_ret
  exact ⟨rfl, Fp.refl _ _⟩
theorem clone_nilO (w : World) : Calls Tryz.prog 62 #[.slice none 0 0] w (Ret1 (.slice none 0 0) w) := by
  have q1 : ∀ W, (binOp .eql 50 (.slice none 0 0) (.slice none 0 0)).run Tryz.prog W = .ok (.bool true) W := fun W => Lib.run_eql_slice_nil W _ _ _ 0 0 0 0 Tryz.underlying50
  go_enter Tryz.func62, Tryz.ntmps62
  go_wp2_with fail
  go_ret
  exact ⟨rfl, Fp.refl _ _⟩
set_option maxRecDepth 100000 in
theorem queue_new (h : BoxN w g tb sl ss bc bf bm ep pt p1 p2 wv o ip bits ns nb) : Calls Tryz.prog 32 #[.pointer (some ⟨g, 0, none⟩)] w (Ret1 (.slice none 0 0) w) := by
  have H := Lib.hid h
  have B_g := Lib.hid h.g
  clear h
  go_enter Tryz.func32, Tryz.ntmps32
  go_wp2_with fail
  refine (none_new H.out).mono ?_
  rintro e z ⟨rfl, hp⟩
  replace B_g := hid_blk B_g hp
  replace H := Lib.hid (H.out.low hp)
  have HN := Lib.hid hp
  clear hp
  have c9 := cell_at B_g 9 rfl
  have lg := hid_lt B_g
  go_wp2_with fail
  refine (clone_nilH _).mono ?_
  rintro e z2 ⟨rfl, hp⟩
  replace HN := hid_now HN hp
  clear hp c9 lg
  go_wp2_with fail
  go_ret
  exact ⟨rfl, HN.out⟩
set_option maxRecDepth 100000 in
theorem pnone_new (w : World) (pt p1 p2 : Nat) (B_p : Hid (w.heap[pt]? = some (.cells #[.map (some p1), .map (some p2)] 185 (0, 0)))) : Calls Tryz.prog 83 #[.pointer (some ⟨pt, 0, none⟩)] w (Ret1 (.bool false) w) := by
  have c0 := cell_at B_p 0 rfl
  have lg := hid_lt B_p
  have q1 : ∀ W, (binOp .eql 182 (.map (some p1)) (.map none)).run Tryz.prog W = .ok (.bool false) W := fun W => Go.run_eql_map_nil W _ _ _ (some p1) Tryz.underlying182
  go_enter Tryz.func83, Tryz.ntmps83
  go_wp2_with fail
  go_ret
  exact ⟨rfl, Fp.refl _ _⟩
set_option maxRecDepth 100000 in
theorem plist_new (w : World) (pt p1 p2 : Nat) (B_p : Hid (w.heap[pt]? = some (.cells #[.map (some p1), .map (some p2)] 185 (0, 0)))) (B_m : Hid (w.heap[p1]? = some (.map #[] 0))) : Calls Tryz.prog 60 #[.pointer (some ⟨pt, 0, none⟩)] w (Ret1 (.slice none 0 0) w) := by
  go_enter Tryz.func60, Tryz.ntmps60
  go_wp2_with fail
  refine (pnone_new _ pt p1 p2 B_p).mono ?_
  rintro e z ⟨rfl, hp⟩
  replace B_p := hid_blk B_p hp
  replace B_m := hid_blk B_m hp
  have HN := Lib.hid hp
  clear hp
  have c0 := cell_at B_p 0 rfl
  have lg := hid_lt B_p
  have hr := run_range_empty z p1 B_m.out
  go_wp2_with fail
  clear hr
  refine wp_gen (fun x1 hW => ?_)
  have hp := new_now hW
  have B_r := new_blk hW
  replace B_p := hid_blk B_p hp
  replace B_m := hid_blk B_m hp
  replace HN := hid_now HN hp
  clear hW hp c0 lg
  obtain ⟨r, hr⟩ : ∃ r, r = z.heap.size := ⟨_, rfl⟩
  rw [← hr] at B_r ⊢
  clear hr
  go_loopg [3] 1 (fun gg ov wx => gg = 1 ∧ ov = .slice none 0 0 ∧ wx = x1)
  case atStart => exact ⟨rfl, rfl, rfl⟩
  case round =>
    obtain ⟨rfl, rfl, rfl⟩ := hrel
    have hn := fun ty => run_next_empty wr r p1 ty B_r.out B_m.out
    go_wp2_with fail
    clear hn
    refine (sort_empty _ _).mono ?_
    rintro e w1 ⟨rfl, hw⟩
    rw [hw]
    clear hw
    go_wp2_with fail
    go_ret
    exact ⟨rfl, HN.out⟩
set_option maxRecDepth 100000 in
theorem ports_new2 (h : BoxN w g tb sl ss bc bf bm ep pt p1 p2 wv o ip bits ns nb) : Calls Tryz.prog 31 #[.pointer (some ⟨g, 0, none⟩)] w (Ret1 (.slice none 0 0) w) := by
  have H := Lib.hid h
  have B_g := Lib.hid h.g
  clear h
  go_enter Tryz.func31, Tryz.ntmps31
  go_wp2_with fail
  refine (none_new H.out).mono ?_
  rintro e z ⟨rfl, hp⟩
  replace B_g := hid_blk B_g hp
  replace H := Lib.hid (H.out.low hp)
  have HN := Lib.hid hp
  clear hp
  have c8 := cell_at B_g 8 rfl
  have lg := hid_lt B_g
  go_wp2_with fail
  refine (plist_new _ pt p1 p2 (Lib.hid H.out.p) (Lib.hid H.out.m)).mono ?_
  rintro e z2 ⟨rfl, hp⟩
  replace HN := hid_now HN hp
  clear hp c8 lg
  go_wp2_with fail
  go_ret
  exact ⟨rfl, HN.out⟩
end
end Go.Proofs.YtcimbbllefkdlaaGreatDoor

namespace Go.Proofs.YtcimbbllefkdlaaGreatDoor
set_option linter.unusedVariables false
set_option linter.unusedSimpArgs false
open Go.RowKit Go.Lib Go.Sort
theorem run_loadVar_at {P : Program} {w : World} (ty : TypeId) (b o : Nat) (cs : Array Value) (d : TypeDesc) (hc : ∀ j v, cs.toList[j]? = some v → w.cell? ⟨b, o + j, none⟩ = some v)
    (hu : P.underlying ty = some d) (hd : (match d with | .struct _ | .array _ _ => true | _ => false) = true) (hi : (P.info? ty).map (·.size) = some cs.size) :
    (loadVar ty ⟨b, o, none⟩).run P w = .ok (.agg cs) w := by
  have hl : (loadCells ⟨b, o, none⟩ cs.toList.length).run P w = .ok cs.toList.toArray w :=
    run_loadCells_list (P := P) (w := w) ⟨b, o, none⟩ cs.toList (fun j v hv => by
      have hadd : (⟨b, o, none⟩ : Addr).add j = ⟨b, o + j, none⟩ := by unfold Addr.add; split <;> simp_all
      rw [hadd]; exact hc j v hv)
  cases hq : P.info? ty with
  | none => simp [hq] at hi
  | some i =>
    have hs : i.size = cs.size := by simpa [hq] using hi
    have hagg : (isAgg ty).run P w = .ok true w := by
      unfold isAgg
      rw [Sem.run_bind, run_underlying hu w]
      cases d <;> simp_all
    simp only [Array.length_toList, Array.toArray_toList] at hl
    simp [loadVar, Sem.run_bind, hagg, sizeOf, typeInfo, hq, hs, hl]
/-- A struct is loaded: its cells are known. -/
theorem wpList_load_at {P : Program} {ops : Array Oper} {rest : List Oper} {o : Oper} {a : Act} {w : World} {Q : Exit → Act → World → Prop} (hgd : o.guard = none) (ty : TypeId) (x : Operand) (ho : o.op = .load ty x)
    (b off : Nat) (hx : a.eval x = .pointer (some ⟨b, off, none⟩)) (cs : Array Value) (d : TypeDesc) (hc : ∀ j v, cs.toList[j]? = some v → w.cell? ⟨b, off + j, none⟩ = some v)
    (hu : P.underlying ty = some d) (hd : (match d with | .struct _ | .array _ _ => true | _ => false) = true) (hi : (P.info? ty).map (·.size) = some cs.size)
    (h : wpList P ops Q rest (a.put o.dst (.agg cs)) w) : wpList P ops Q (o :: rest) a w :=
  wpList_plain hgd fun _ hK => by
    unfold Oper.wp execOp
    simp only [ho, hx, Instr.loadAt, Instr.sureAddr, Sem.run_bind, Sem.run_pure, Result.andThen_ok, run_loadVar_at ty b off cs d hc hu hd hi]
    exact hK _ _ h
/-- A struct is stored into the block that was just made. -/
theorem wpList_store_new {P : Program} {ops : Array Oper} {rest : List Oper} {o : Oper} {a : Act} {w : World} {Q : Exit → Act → World → Prop} (hgd : o.guard = none) (ty : TypeId) (x y : Operand) (ho : o.op = .store ty x y) (hdst : o.dst = none)
    (old cells : Array Value) (hx : a.eval x = .pointer (some ⟨w.heap.size, 0, none⟩)) (hy : a.eval y = .agg cells)
    (hi : (P.info? ty).map (·.size) = some cells.size) (hold : old.size = cells.size) (h1 : cells.all (·.oneCell') = true)
    (h : wpList P ops Q rest a (w.alloc (.cells cells ty))) : wpList P ops Q (o :: rest) a (w.alloc (.cells old ty)) := by
  refine wpList_store_row hgd ty x y ho w.heap.size cells hx hy ty old (heap_alloc_last w _) hi hold h1 ?_
  rw [World.setRow_alloc_new, hdst]
  exact h
end Go.Proofs.YtcimbbllefkdlaaGreatDoor

namespace Go.Proofs.YtcimbbllefkdlaaGreatDoor
set_option linter.unusedVariables false
set_option linter.unusedSimpArgs false
open Go.RowKit Go.Lib Go.Sort
theorem made16 {ns : Nat} (i j : Nat) (v : Value) (hi : i < ns) (hj : (#[.bool false, .bool false, .bool false, .int .u8 0, .int .u32 0, .int .u16 0, .int .u32 0, .int .u16 0, .int .u8 0, .int .u32 0, .int .u16 0, .int .u32 0, .int .u16 0, .int .i64 0, .int .i64 0, .slice none 0 0] : Array Value).toList[j]? = some v) : (madeCells slt16 (ns * 16))[i * 16 + j]? = some v := by
  have hj2 : j < 16 := by have := (List.getElem?_eq_some_iff.1 hj).1; simpa using this
  have h1 : i * 16 + j < ns * 16 := by omega
  have e : (i * 16 + j) % slt16.size = j := by show (i * 16 + j) % 16 = j; omega
  have hz : j < slt16.size := hj2
  have hs : slt16[j]? = some v := by rw [← hj, Array.getElem?_toList]; rfl
  have hg := (Array.getElem?_eq_some_iff.1 hs).2
  simp [madeCells, h1, e]
  rw [Array.getElem!_eq_getD, Array.getD_eq_getD_getElem?, hs]; rfl
section
variable {w w' : World} {g tb sl ss bc bf bm ep pt p1 p2 : Nat} {wv : Value} {o ip : Nat} {bits : Int} {ns nb : Nat}
set_option maxHeartbeats 8000000 in
set_option maxRecDepth 100000 in
theorem slot_new (h : BoxN w g tb sl ss bc bf bm ep pt p1 p2 wv o ip bits ns nb) (i : Nat) (hi : i < ns) : Calls Tryz.prog 34 #[.pointer (some ⟨g, 0, none⟩), .int .i64 i] w (Ret1 (.tuple #[.agg #[.bool false, .bool false, .bool false, .int .u8 0, .int .u32 0, .int .u16 0, .int .u32 0, .int .u16 0, .int .u8 0, .int .u32 0, .int .u16 0, .int .u32 0, .int .u16 0, .int .i64 0, .int .i64 0, .slice none 0 0], .bool true]) w) := by
  have H := Lib.hid h
  clear h
  go_enter Tryz.func34, Tryz.ntmps34
  have HN := Lib.hid (Fp.refl (fun _ => False) w)
  go_upto_region 1 with fail
  refine wp_gen (fun z1 hW => ?_)
  have hp := new_now hW
  have hB := new_blk hW
  clear hW
  have hGe := hid_ge HN
  replace HN := hid_now HN hp
  obtain ⟨gR, hgR⟩ : ∃ gR, gR = w.heap.size := ⟨_, rfl⟩
  have G_gR := Lib.hid (Nat.le_trans hGe (Nat.le_of_eq hgR.symm))
  rw [← hgR] at hB ⊢
  have B_gR := hB
  clear hB hGe hgR
  clear hp
  have c1 : ¬ (i : Int) < 0 := by omega
  have c2 : ¬ (ns : Int) ≤ (i : Int) := by omega
  have c3 : ¬ ns ≤ i := by omega
  go_wp2_with fail
  refine (size_new (H.out.low HN.out)).mono ?_
  rintro e z2 ⟨rfl, hp⟩
  replace HN := hid_now HN hp
  replace B_gR := hid_blk B_gR hp
  clear hp
  have hH := H.out.low HN.out
  have B_g := Lib.hid hH.g
  have B_ss := Lib.hid hH.ss
  clear hH
  have ck : (i : Int) < (ns : Int) := by omega
  have cg4 := cell_at B_g 4 rfl
  have lg := hid_lt B_g
  have ls := hid_lt B_ss
  have XC : Hid (∀ j v, (#[.bool false, .bool false, .bool false, .int .u8 0, .int .u32 0, .int .u16 0, .int .u32 0, .int .u16 0, .int .u8 0, .int .u32 0, .int .u16 0, .int .u32 0, .int .u16 0, .int .i64 0, .int .i64 0, .slice none 0 0] : Array Value).toList[j]? = some v → z2.cell? ⟨ss, i * 16 + j, none⟩ = some v) := Lib.hid (fun j v hj => by have := made16 i j v hi hj; simp only [World.cell?, B_ss.out]; simpa using this)
  clear B_ss
  go_upto_region 4 with (first | (refine wpList_load_at (o := ⟨some 22, _, _, _, _, _⟩) rfl _ _ rfl ss (i * 16) (by kernel_rfl) #[.bool false, .bool false, .bool false, .int .u8 0, .int .u32 0, .int .u16 0, .int .u32 0, .int .u16 0, .int .u8 0, .int .u32 0, .int .u16 0, .int .u32 0, .int .u16 0, .int .i64 0, .int .i64 0, .slice none 0 0] _ XC.out Tryz.underlying54 rfl (by kernel_rfl) ?_) | (refine wpList_store_new (o := ⟨none, .store 54 _ _, _, _, _, _⟩) rfl _ _ _ rfl rfl _ #[.bool false, .bool false, .bool false, .int .u8 0, .int .u32 0, .int .u16 0, .int .u32 0, .int .u16 0, .int .u8 0, .int .u32 0, .int .u16 0, .int .u32 0, .int .u16 0, .int .i64 0, .int .i64 0, .slice none 0 0] (by kernel_rfl) (by kernel_rfl) (by kernel_rfl) (by kernel_rfl) (by kernel_rfl) ?_))
  clear XC cg4 lg ls B_g
  refine wp_gen (fun z3 hW => ?_)
  have l2gR := hid_lt B_gR
  have hp := new_now hW
  have hB := new_blk hW
  clear hW
  have hGe := hid_ge HN
  replace HN := hid_now HN hp
  replace B_gR := hid_blk B_gR hp
  obtain ⟨gX, hgX⟩ : ∃ gX, gX = z2.heap.size := ⟨_, rfl⟩
  have G_gX := Lib.hid (Nat.le_trans hGe (Nat.le_of_eq hgX.symm))
  have n_gR_gX : ¬ gR = gX := by omega
  have n_gX_gR : ¬ gX = gR := by omega
  clear l2gR
  rw [← hgX] at hB ⊢
  have B_gX := hB
  clear hB hGe hgX
  clear hp
  have cgX15 := cell_at B_gX 15 rfl
  have zgX := froz_at B_gX
  have lgX := hid_lt B_gX
  go_wp2_with fail
  refine (clone_nilO _).mono ?_
  rintro e z4 ⟨rfl, hp⟩
  replace HN := hid_now HN hp
  replace B_gR := hid_blk B_gR hp
  replace B_gX := hid_blk B_gX hp
  clear hp
  clear cgX15 zgX lgX
  have cgX15 := cell_at B_gX 15 rfl
  have zgX := froz_at B_gX
  have lgX := hid_lt B_gX
  go_upto_region 5 with fail
  refine wp_gen (fun z5 hW => ?_)
  have hB := set_blk hW B_gX
  have hf := set_now hW
  clear hW
  simp only [List.setIfInBounds_toArray, List.set_cons_zero, List.set_cons_succ] at hB
  replace HN := hid_own HN hf (fun i hi e => by have h1 : i = gX := e; have h2 := G_gX.out; omega)
  replace B_gR := hid_blkS B_gR hf n_gR_gX
  replace B_gX := hB
  clear hB hf
  clear cgX15 zgX lgX
  refine wp_region_list ?_
  refine wpList_load_row rfl _ _ rfl gX (by kernel_rfl) _ _ _ _ B_gX.out Tryz.underlying54 rfl (by kernel_rfl) ?_
  try simp only [Act.put, List.setIfInBounds_toArray, List.set_cons_zero, List.set_cons_succ]
  have cgR0 := cell_at B_gR 0 rfl
  have cgR1 := cell_at B_gR 1 rfl
  have cgR2 := cell_at B_gR 2 rfl
  have cgR3 := cell_at B_gR 3 rfl
  have cgR4 := cell_at B_gR 4 rfl
  have cgR5 := cell_at B_gR 5 rfl
  have cgR6 := cell_at B_gR 6 rfl
  have cgR7 := cell_at B_gR 7 rfl
  have cgR8 := cell_at B_gR 8 rfl
  have cgR9 := cell_at B_gR 9 rfl
  have cgR10 := cell_at B_gR 10 rfl
  have cgR11 := cell_at B_gR 11 rfl
  have cgR12 := cell_at B_gR 12 rfl
  have cgR13 := cell_at B_gR 13 rfl
  have cgR14 := cell_at B_gR 14 rfl
  have cgR15 := cell_at B_gR 15 rfl
  have zgR := froz_at B_gR
  have lgR := hid_lt B_gR
  go_wp2_with fail
  refine post_gen (fun W hW => ?_)
  obtain ⟨hB, hf⟩ := setE16 hW B_gR
  replace HN := hid_own HN hf (fun i hi e => by have h1 : i = gR := e; have h2 := G_gR.out; omega)
  clear hW hf cgR0 cgR1 cgR2 cgR3 cgR4 cgR5 cgR6 cgR7 cgR8 cgR9 cgR10 cgR11 cgR12 cgR13 cgR14 cgR15 zgR lgR
  replace B_gR := hB
  clear hB
  have cgR0 := cell_at B_gR 0 rfl
  have cgR1 := cell_at B_gR 1 rfl
  have cgR2 := cell_at B_gR 2 rfl
  have cgR3 := cell_at B_gR 3 rfl
  have cgR4 := cell_at B_gR 4 rfl
  have cgR5 := cell_at B_gR 5 rfl
  have cgR6 := cell_at B_gR 6 rfl
  have cgR7 := cell_at B_gR 7 rfl
  have cgR8 := cell_at B_gR 8 rfl
  have cgR9 := cell_at B_gR 9 rfl
  have cgR10 := cell_at B_gR 10 rfl
  have cgR11 := cell_at B_gR 11 rfl
  have cgR12 := cell_at B_gR 12 rfl
  have cgR13 := cell_at B_gR 13 rfl
  have cgR14 := cell_at B_gR 14 rfl
  have cgR15 := cell_at B_gR 15 rfl
  have zgR := froz_at B_gR
  have lgR := hid_lt B_gR
  refine bodyPost_ret (v := .tuple #[.agg #[.bool false, .bool false, .bool false, .int .u8 0, .int .u32 0, .int .u16 0, .int .u32 0, .int .u16 0, .int .u8 0, .int .u32 0, .int .u16 0, .int .u32 0, .int .u16 0, .int .i64 0, .int .i64 0, .slice none 0 0], .bool true]) (by simp only [results, Tryz.results34]; go_simp) rfl ⟨rfl, HN.out⟩
end
end Go.Proofs.YtcimbbllefkdlaaGreatDoor

namespace Go.Proofs.YtcimbbllefkdlaaGreatDoor
set_option linter.unusedVariables false
set_option linter.unusedSimpArgs false
open Go.RowKit Go.ChangeShapes Go.WideShapes Go.ChangeAt

/-- The cells of a value of a type, as far as a law's walk wants them. -/
def Sees (P : Program) (w : World) : Nat → TypeId → List Value → Prop
  | 0, _, _ => False
  | n + 1, t, cs => match P.underlying t with
    | some .bool => ∃ b, cs = [.bool b]
    | some (.int k) => ∃ x, cs = [.int k x] ∧ (Lit.int k x).wf = true
    | some .string => ∃ s, cs = [.string s] ∧ s.size ≤ maxLen
    | some (.slice e) => cs = [.slice none 0 0] ∨ ∃ a len cap, cs = [.slice (some a) len cap] ∧ len ≤ cap ∧ cap ≤ maxLen ∧ ∀ i, i < cap → ∃ ds, w.cells? 0 (a.add (i * P.cellsOf e)) (P.cellsOf e) = some ds ∧ Sees P w n e ds
    | some (.struct fs) => cs.length = P.cellsOf t ∧ ∀ f, f ∈ fs.toList → Sees P w n f.type ((cs.drop f.offset).take (P.cellsOf f.type))
    | some (.array m e) => cs.length = P.cellsOf t ∧ ∀ i, i < m → Sees P w n e ((cs.drop (i * P.cellsOf e)).take (P.cellsOf e))
    | _ => True

theorem mapM_some {α β : Type} {f : α → Option β} : ∀ {l : List α} {r : List β}, l.mapM f = some r → ∀ a, a ∈ l → ∃ b, f a = some b
  | [], _, _, a, ha => by cases ha
  | x :: xs, r, h, a, ha => by
    simp only [List.mapM_cons, Option.bind_eq_bind, Option.bind_eq_some_iff] at h
    obtain ⟨b, hb, bs, hbs, _⟩ := h
    rcases List.mem_cons.1 ha with rfl | ha
    · exact ⟨b, hb⟩
    · exact mapM_some hbs a ha

theorem sees_of_trod {H : Type} {enc : TypeId × Value → H} {P : Program} {w : World} {held : Bool} : ∀ (n : Nat) (t : TypeId) (cs : List Value) (x : DataW H × List MemPlace),
    DataW.trod enc P w 0 (fun _ => true) held n t cs = some x → Sees P w n t cs
  | 0, _, _, _, h => by simp [DataW.trod] at h
  | n + 1, t, cs, x, h => by
    unfold Sees
    rcases hu : P.underlying t with _ | d
    · trivial
    cases d with
    | bool =>
      simp only [DataW.trod, hu] at h
      split at h <;> first | (simp_all; done) | skip
    | int k =>
      simp only [DataW.trod, hu] at h
      split at h <;> first | (simp_all; done) | skip
    | string =>
      simp only [DataW.trod, hu] at h
      split at h <;> first | (simp_all; done) | skip
    | slice e =>
      simp only [DataW.trod, hu] at h
      split at h <;> first | (simp_all; done) | skip
      rename_i a len cap heq
      cases heq
      refine Or.inr ⟨a, len, cap, rfl, ?_⟩
      split at h
      · rename_i hc
        refine ⟨hc.2.1, hc.2.2, fun i hi => ?_⟩
        simp only [Option.bind_eq_some_iff, Option.map_eq_some_iff, if_true] at h
        obtain ⟨elems, he, rest, hr, _⟩ := h
        have key : ∃ b, ((w.cells? 0 (a.add (i * P.cellsOf e)) (P.cellsOf e)).bind (DataW.trod enc P w 0 (fun _ => true) held n e)) = some b := by
          by_cases hl : i < len
          · exact mapM_some he i (List.mem_range.2 hl)
          · have := mapM_some hr (i - len) (List.mem_range.2 (by omega))
            rw [show len + (i - len) = i from by omega] at this
            exact this
        obtain ⟨b, hb⟩ := key
        obtain ⟨ds, h1, h2⟩ := Option.bind_eq_some_iff.1 hb
        exact ⟨ds, h1, sees_of_trod n e ds b h2⟩
      · cases h
    | struct fs =>
      simp only [DataW.trod, hu] at h
      split at h <;> first | (simp_all; done) | skip
      rename_i hc
      refine ⟨hc, fun f hf => ?_⟩
      obtain ⟨xs, hx, _⟩ := Option.map_eq_some_iff.1 h
      obtain ⟨b, hb⟩ := mapM_some hx f hf
      exact sees_of_trod n _ _ b hb
    | array m e =>
      simp only [DataW.trod, hu] at h
      split at h <;> first | (simp_all; done) | skip
      rename_i hc
      refine ⟨hc, fun i hi => ?_⟩
      obtain ⟨xs, hx, _⟩ := Option.map_eq_some_iff.1 h
      obtain ⟨b, hb⟩ := mapM_some hx i (List.mem_range.2 hi)
      exact sees_of_trod n _ _ b hb
    | _ => trivial

/-- A value of a type, and its cells. -/
def Good (P : Program) (w : World) (t : TypeId) (v : Value) : Prop :=
  (∃ n, Sees P w n t v.cells.toList) ∧ match P.underlying t with
    | some (.struct _) | some (.array _ _) => ∃ cs, v = .agg cs
    | _ => v.cells = #[v]

theorem good_of {H : Type} {enc : TypeId × Value → H} {P : Program} {w : World} {r : Reach} {base : Nat} {held : Bool} {t : TypeId} {v : Value} {d : DataW H} {ps : List MemPlace}
    (hv : Value.okWide P w r base t v) (h : DataW.Trod enc P w 0 (fun _ => true) held t v d ps) : Good P w t v := by
  obtain ⟨n, hn⟩ := h
  refine ⟨⟨n, sees_of_trod n t _ _ hn⟩, ?_⟩
  unfold Value.okWide at hv
  rcases hu : P.underlying t with _ | q
  · simp only [hu] at hv ⊢
    cases v <;> simp_all [Cell.okWide, Cell.ok, Value.cells]
  · cases q <;> simp only [hu] at hv ⊢ <;> first | (obtain ⟨cs, h1, _⟩ := hv; exact ⟨cs, h1⟩) | (cases v <;> simp_all [Cell.okWide, Cell.ok, Value.cells]; done) | skip

section
variable {P : Program} {w : World} {n : Nat} {t e : TypeId} {cs : List Value}
theorem sees_int {k : IntKind} (hu : P.underlying t = some (.int k)) (h : Sees P w n t cs) : ∃ x, cs = [.int k x] ∧ (Lit.int k x).wf = true := by
  cases n with
  | zero => exact h.elim
  | succ n => simpa only [Sees, hu] using h
theorem sees_bool (hu : P.underlying t = some .bool) (h : Sees P w n t cs) : ∃ b, cs = [.bool b] := by
  cases n with
  | zero => exact h.elim
  | succ n => simpa only [Sees, hu] using h
theorem sees_slice (hu : P.underlying t = some (.slice e)) (h : Sees P w n t cs) : cs = [.slice none 0 0] ∨ ∃ m a len cap, cs = [.slice (some a) len cap] ∧ len ≤ cap ∧ cap ≤ maxLen ∧ ∀ i, i < cap → ∃ ds, w.cells? 0 (a.add (i * P.cellsOf e)) (P.cellsOf e) = some ds ∧ Sees P w m e ds := by
  cases n with
  | zero => exact h.elim
  | succ n => simp only [Sees, hu] at h; exact h.imp id fun ⟨a, len, cap, r⟩ => ⟨n, a, len, cap, r⟩
theorem sees_struct {fs : Array Field} (hu : P.underlying t = some (.struct fs)) (h : Sees P w n t cs) : cs.length = P.cellsOf t ∧ ∃ m, ∀ f, f ∈ fs.toList → Sees P w m f.type ((cs.drop f.offset).take (P.cellsOf f.type)) := by
  cases n with
  | zero => exact h.elim
  | succ n => simp only [Sees, hu] at h; exact ⟨h.1, n, h.2⟩
theorem good_int {v : Value} {k : IntKind} (hu : P.underlying t = some (.int k)) (h : Good P w t v) : ∃ x, v = .int k x ∧ (Lit.int k x).wf = true := by
  obtain ⟨⟨n, hs⟩, hv⟩ := h
  simp only [hu] at hv
  rw [hv] at hs
  obtain ⟨x, e, hw⟩ := sees_int hu hs
  simp at e
  exact ⟨x, e, hw⟩
theorem good_struct {v : Value} {fs : Array Field} (hu : P.underlying t = some (.struct fs)) (h : Good P w t v) : ∃ cs n, v = .agg cs ∧ Sees P w n t cs.toList := by
  obtain ⟨⟨n, hs⟩, hv⟩ := h
  simp only [hu] at hv
  obtain ⟨cs, rfl⟩ := hv
  exact ⟨cs, n, rfl, hs⟩
end

theorem mapM_get {α β : Type} {f : α → Option β} : ∀ {l : List α} {r : List β}, l.mapM f = some r → r.length = l.length ∧ ∀ (j : Nat) (a : α), l[j]? = some a → f a = r[j]?
  | [], r, h => by simp at h; subst h; exact ⟨rfl, fun j a ha => by simp at ha⟩
  | x :: xs, r, h => by
    simp only [List.mapM_cons, Option.bind_eq_bind, Option.bind_eq_some_iff] at h
    obtain ⟨b, hb, bs, hbs, hr⟩ := h
    have hr : b :: bs = r := by simpa using hr
    subst hr
    obtain ⟨h1, h2⟩ := mapM_get hbs
    refine ⟨by simp [h1], fun j a ha => ?_⟩
    cases j with
    | zero => simp at ha; subst ha; simpa using hb
    | succ j => simp at ha; simpa using h2 j a ha

theorem add_eq (b o i : Nat) : (⟨b, o, none⟩ : Addr).add i = ⟨b, o + i, none⟩ := by
  unfold Addr.add
  split
  · subst_vars; rfl
  · rfl

end Go.Proofs.YtcimbbllefkdlaaGreatDoor

namespace Go.Proofs.YtcimbbllefkdlaaGreatDoor
set_option linter.unusedVariables false
set_option linter.unusedSimpArgs false
open Go.RowKit Go.Lib Go.Sort

/-- A slice of holds, as it stands in memory. -/
structure Holds (w : World) (b o n : Nat) (ys : List Value) : Prop where
  len : ys.length = n * 4
  cell : ∀ j x, ys[j]? = some x → w.cell? ⟨b, o + j, none⟩ = some x
  one : ∀ x ∈ ys, x.oneCell' = true
  lt : b < w.heap.size
theorem Holds.low {w w' : World} {b o n : Nat} {ys : List Value} (h : Holds w b o n ys) (hf : NoW w w') : Holds w' b o n ys :=
  ⟨h.len, fun j x hj => (hf.cell (p := ⟨b, o + j, none⟩) h.lt id).trans (h.cell j x hj), h.one, Nat.lt_of_lt_of_le h.lt hf.size⟩
theorem Holds.set {w : World} {b o n : Nat} {ys : List Value} (h : Holds w b o n ys) {p : Addr} (hp : p.block ≠ b) (v : Value) : Holds (w.setCell p v) b o n ys :=
  ⟨h.len, fun j x hj => (World.cell?_setCell_other _ _ _ _ (fun e => hp (by rw [e]))).trans (h.cell j x hj), h.one, by simpa [World.setCell] using h.lt⟩
/-- No cell of a block is frozen. -/
def Frz (w : World) (b : Nat) : Prop := ∀ o, w.frozen? ⟨b, o, none⟩ = false
theorem Frz.low {w w' : World} {b : Nat} {S : Nat → Prop} (h : Frz w b) (hl : b < w.heap.size) (hp : Fp S w w') (hn : ¬ S b) : Frz w' b := fun o => (hp.frozen (p := ⟨b, o, none⟩) hl hn).trans (h o)
end Go.Proofs.YtcimbbllefkdlaaGreatDoor
namespace Go.Proofs.YtcimbbllefkdlaaGreatDoor
set_option linter.unusedVariables false
set_option linter.unusedSimpArgs false
open Go.RowKit Go.Lib Go.Sort
theorem heap_set_other (w : World) (g b i : Nat) (v : Value) (hne : g ≠ b) : (w.setCell ⟨g, i, none⟩ v).heap[b]? = w.heap[b]? := by
  by_cases hb : b < w.heap.size
  · exact ((Fp.refl (fun k => k = g) w).setCell (p := ⟨g, i, none⟩) (Or.inr rfl) v).block b hb (fun e => hne e.symm)
  · rw [Array.getElem?_eq_none (by simp [World.setCell] at *; omega), Array.getElem?_eq_none (by omega)]
theorem set13 (w : World) (g : Nat) (T : TypeId) (z0 z1 z2 z3 z4 z5 z6 z7 z8 z9 z10 z11 z12 : Value) (h : w.heap[g]? = some (.cells #[z0, z1, z2, z3, z4, z5, z6, z7, z8, z9, z10, z11, z12] T (0, 0))) (x0 x1 x2 x3 x4 x5 x6 x7 x8 x9 x10 x11 x12 : Value) :
    ∃ W, W = (((((((((((((w.setCell ⟨g, 0, none⟩ x0).setCell ⟨g, 1, none⟩ x1).setCell ⟨g, 2, none⟩ x2).setCell ⟨g, 3, none⟩ x3).setCell ⟨g, 4, none⟩ x4).setCell ⟨g, 5, none⟩ x5).setCell ⟨g, 6, none⟩ x6).setCell ⟨g, 7, none⟩ x7).setCell ⟨g, 8, none⟩ x8).setCell ⟨g, 9, none⟩ x9).setCell ⟨g, 10, none⟩ x10).setCell ⟨g, 11, none⟩ x11).setCell ⟨g, 12, none⟩ x12) ∧ W.heap[g]? = some (.cells #[x0, x1, x2, x3, x4, x5, x6, x7, x8, x9, x10, x11, x12] T (0, 0)) ∧ Fp (fun k => k = g) w W := by
  refine ⟨_, rfl, ?_, ?_⟩
  · have h0 := heap_set w g 0 _ T x0 h
    have h1 := heap_set _ g 1 _ T x1 h0
    have h2 := heap_set _ g 2 _ T x2 h1
    have h3 := heap_set _ g 3 _ T x3 h2
    have h4 := heap_set _ g 4 _ T x4 h3
    have h5 := heap_set _ g 5 _ T x5 h4
    have h6 := heap_set _ g 6 _ T x6 h5
    have h7 := heap_set _ g 7 _ T x7 h6
    have h8 := heap_set _ g 8 _ T x8 h7
    have h9 := heap_set _ g 9 _ T x9 h8
    have h10 := heap_set _ g 10 _ T x10 h9
    have h11 := heap_set _ g 11 _ T x11 h10
    have h12 := heap_set _ g 12 _ T x12 h11
    rw [h12]; simp
  · exact ((((((((((((((Fp.refl (fun k => k = g) w).setCell (p := ⟨g, 0, none⟩) (Or.inr rfl) x0).setCell (p := ⟨g, 1, none⟩) (Or.inr rfl) x1).setCell (p := ⟨g, 2, none⟩) (Or.inr rfl) x2).setCell (p := ⟨g, 3, none⟩) (Or.inr rfl) x3).setCell (p := ⟨g, 4, none⟩) (Or.inr rfl) x4).setCell (p := ⟨g, 5, none⟩) (Or.inr rfl) x5).setCell (p := ⟨g, 6, none⟩) (Or.inr rfl) x6).setCell (p := ⟨g, 7, none⟩) (Or.inr rfl) x7).setCell (p := ⟨g, 8, none⟩) (Or.inr rfl) x8).setCell (p := ⟨g, 9, none⟩) (Or.inr rfl) x9).setCell (p := ⟨g, 10, none⟩) (Or.inr rfl) x10).setCell (p := ⟨g, 11, none⟩) (Or.inr rfl) x11).setCell (p := ⟨g, 12, none⟩) (Or.inr rfl) x12)

end Go.Proofs.YtcimbbllefkdlaaGreatDoor
namespace Go.Proofs.YtcimbbllefkdlaaGreatDoor
set_option linter.unusedVariables false
set_option linter.unusedSimpArgs false
open Go.RowKit Go.Lib Go.Sort
end Go.Proofs.YtcimbbllefkdlaaGreatDoor
namespace Go.Proofs.YtcimbbllefkdlaaGreatDoor
set_option linter.unusedVariables false
set_option linter.unusedSimpArgs false
open Go.RowKit Go.Lib Go.Sort

end Go.Proofs.YtcimbbllefkdlaaGreatDoor
namespace Go.Proofs.YtcimbbllefkdlaaGreatDoor
set_option linter.unusedVariables false
set_option linter.unusedSimpArgs false
open Go.RowKit Go.Lib Go.Sort

/-- 'append' of one element that lies in a block of its own, where it comes up in a drawn region. -/
theorem op_append1 {P : Program} {w : World} {o : Oper} {a : Act} {K : Act → World → Prop} {Q : Exit → Act → World → Prop} (s x : Operand) (t : TypeId)
    (ho : o.op = .call { callee := .builtin .append, args := #[s, x], argTypes := #[t, t] })
    (base : Nat) (e : TypeId) (z : Value) (size : Nat) (ht : P.underlying t = some (.slice e)) (hi : ∃ i, P.info? e = some i ∧ i.zero = some z ∧ i.size = size ∧ i.bytes ≤ 65536)
    (hzs : z.cells.size = size) (hsz : 0 < size) (v : Value) (n : Nat) (xs : List Value) (hs : a.eval s = v) (hown : w.ownsRow base e size v n xs)
    (g : Nat) (news : List Value) (hx : a.eval x = .slice (some ⟨g, 0, none⟩) 1 1) (hl : news.length = size) (hnews : w.heap[g]? = some (.cells news.toArray e (0, 0))) (h1 : ∀ u ∈ news, u.oneCell' = true)
    (hn : n + 1 ≤ 1048576) (hbase : base ≤ w.heap.size)
    (h : ∀ v' w', w'.ownsRow base e size v' (n + 1) (xs ++ news) → w.grownBy w' v.ownBlock → K (a.put o.dst v') w') : Oper.wp P o a w K Q := by
  obtain ⟨i, hi, hz, rfl, hb⟩ := hi
  have hnews' : ∀ j u, news[j]? = some u → w.cell? ((⟨g, 0, none⟩ : Addr).add j) = some u := by
    intro j u hj
    have e : (⟨g, 0, none⟩ : Addr).add j = ⟨g, j, none⟩ := by unfold Addr.add; split <;> simp_all
    rw [e]
    simp [World.cell?, hnews, hj]
  obtain ⟨v', w', hr, h2, h3, h4⟩ := run_append_own (P := P) w base t o.type e i z i.size i.bytes ht hi hz rfl rfl hzs hsz v n xs hown ⟨g, 0, none⟩ 1 1 news (by omega) hnews' h1 (by unfold maxLen; omega) (by have := Nat.mul_le_mul hn hb; omega) hbase
  unfold Oper.wp execOp
  simp only [ho, resolve, invoke, builtin, Sem.run_bind, Sem.run_pure, Result.andThen_ok, List.map_toArray, List.map_cons, List.map_nil, hs, hx, hr]
  exact h v' w' h2 h3

end Go.Proofs.YtcimbbllefkdlaaGreatDoor

namespace Go.Proofs.YtcimbbllefkdlaaGreatDoor
set_option linter.unusedVariables false
set_option linter.unusedSimpArgs false
open Go.RowKit Go.Lib Go.Sort

/-- May a flow make room? -/
def earlyB (f : Nat) (s : Int) : Bool := decide (0 < toN f s) && (if f = 3 then decide (s ≠ 3) else decide (s = 1))
/-- A tuple as a number, by which tuples are in order. -/
def tkey (k a p b q : Nat) : Nat := (((k * 4294967296 + a) * 65536 + p) * 4294967296 + b) * 65536 + q
end Go.Proofs.YtcimbbllefkdlaaGreatDoor

namespace Go.Proofs.YtcimbbllefkdlaaGreatDoor
set_option linter.unusedVariables false
set_option linter.unusedSimpArgs false
open Go.RowKit Go.Lib Go.Sort
end Go.Proofs.YtcimbbllefkdlaaGreatDoor

namespace Go.Proofs.YtcimbbllefkdlaaGreatDoor
set_option linter.unusedVariables false
set_option linter.unusedSimpArgs false
open Go.RowKit Go.Lib Go.Sort

/-- An entry's cells. -/
structure EntD where
  r : Nat
  a : Nat
  p : Nat
  b : Nat
  q : Nat
  r2 : Nat
  a2 : Nat
  p2 : Nat
  b2 : Nat
  q2 : Nat
  st : Int
  dl : Int
  ad : Option Addr
  n : Nat
  c : Nat
def EntD.cs (x : EntD) : List Value := [.int .u8 x.r, .int .u32 x.a, .int .u16 x.p, .int .u32 x.b, .int .u16 x.q, .int .u8 x.r2, .int .u32 x.a2, .int .u16 x.p2, .int .u32 x.b2, .int .u16 x.q2, .int .i64 x.st, .int .i64 x.dl, .slice x.ad x.n x.c]
structure EntD.Ok (x : EntD) : Prop where
  r : x.r < 256
  a : x.a < 4294967296
  p : x.p < 65536
  b : x.b < 4294967296
  q : x.q < 65536
  r2 : x.r2 < 256
  a2 : x.a2 < 4294967296
  p2 : x.p2 < 65536
  b2 : x.b2 < 4294967296
  q2 : x.q2 < 65536
  st : -9223372036854775808 ≤ x.st ∧ x.st ≤ 9223372036854775807
  dl : -9223372036854775808 ≤ x.dl ∧ x.dl ≤ 9223372036854775807
  nm : x.n ≤ maxLen
def EntD.key (x : EntD) : Nat := tkey x.r x.a x.p x.b x.q
def EntD.may (now : Int) (x : EntD) : Bool := decide (now < x.dl) && earlyB (flowN x.r) x.st
/-- A slice of entries. -/
structure Ents (w : World) (a : Option Addr) (n : Nat) (E : Nat → EntD) : Prop where
  ok : ∀ i, i < n → (E i).Ok
  at' : ∀ i, i < n → ∃ b o, a = some ⟨b, o, none⟩ ∧ ∀ j v, (E i).cs[j]? = some v → w.cell? ⟨b, o + i * 13 + j, none⟩ = some v
theorem Ents.low {w w' : World} {a : Option Addr} {n : Nat} {E : Nat → EntD} (h : Ents w a n E) (hf : NoW w w') : Ents w' a n E :=
  ⟨h.ok, fun i hi => by
    obtain ⟨b, o, e, hc⟩ := h.at' i hi
    exact ⟨b, o, e, fun j v hj => (hf.cell (p := ⟨b, o + i * 13 + j, none⟩) (cell_lt (hc j v hj)) id).trans (hc j v hj)⟩⟩
end Go.Proofs.YtcimbbllefkdlaaGreatDoor

namespace Go.Proofs.YtcimbbllefkdlaaGreatDoor
set_option linter.unusedVariables false
set_option linter.unusedSimpArgs false
open Go.RowKit Go.Lib Go.Sort
structure SlotD where
  used : Bool
  put : Bool
  dead : Bool
  e : EntD
def SlotD.cs (x : SlotD) : List Value := [.bool x.used, .bool x.put, .bool x.dead, .int .u8 x.e.r, .int .u32 x.e.a, .int .u16 x.e.p, .int .u32 x.e.b, .int .u16 x.e.q, .int .u8 x.e.r2, .int .u32 x.e.a2, .int .u16 x.e.p2, .int .u32 x.e.b2, .int .u16 x.e.q2, .int .i64 x.e.st, .int .i64 x.e.dl, .slice x.e.ad x.e.n x.e.c]
structure LinkD where
  slot : Int
  gen : Nat
  back : Bool
def LinkD.cs (x : LinkD) : List Value := [.int .i64 x.slot, .int .u32 x.gen, .bool x.back]
structure RowD where
  pr : Nat
  oa : Nat
  op : Nat
  ia : Nat
  ip : Nat
  live : Int
  held : Int
def RowD.cs (x : RowD) : List Value := [.int .u8 x.pr, .int .u32 x.oa, .int .u16 x.op, .int .u32 x.ia, .int .u16 x.ip, .int .i64 x.live, .int .i64 x.held]
structure HandD where
  slot : Int
  gen : Nat
def HandD.cs (x : HandD) : List Value := [.int .i64 x.slot, .int .u32 x.gen]
/-- A view. -/
structure VD where
  now : Int
  ns : Nat
  S : Nat → SlotD
  O : Nat → (Nat → Nat) × (Nat → Nat) × (Nat → Nat) × (Nat → Nat)
  nc : Nat
  cn : Nat → Nat
  C : Nat → Nat → LinkD
  np : Nat
  P : Nat → RowD
  nq : Nat
  Q : Nat → HandD
  free : Int
  live : Int
  gone : Int
/-- Of the first n some is so; how many are. -/
def anyR (n : Nat) (p : Nat → Bool) : Bool := (List.range n).any p
def cntR (n : Nat) (p : Nat → Bool) : Nat := (List.range n).countP p
theorem anyR_succ (n : Nat) (p : Nat → Bool) : anyR (n + 1) p = (anyR n p || p n) := by simp [anyR, List.range_succ]
theorem cntR_succ (n : Nat) (p : Nat → Bool) : cntR (n + 1) p = cntR n p + if p n then 1 else 0 := by
  simp only [cntR, List.range_succ, List.countP_append, List.countP_singleton]
theorem cntR_le (n : Nat) (p : Nat → Bool) : cntR n p ≤ n := by
  have := List.countP_le_length (p := p) (l := List.range n)
  simpa [cntR] using this
theorem anyR_yes {n i : Nat} {p : Nat → Bool} (hi : i < n) (h : p i = true) : anyR n p = true := by
  simp only [anyR, List.any_eq_true, List.mem_range]; exact ⟨i, hi, h⟩
theorem anyR_no {n : Nat} {p : Nat → Bool} (h : ∀ i, i < n → p i = false) : anyR n p = false := by
  simp only [anyR, List.any_eq_false, List.mem_range]; intro i hi; simp [h i hi]
/-- A sum over the first n. -/
def sumR : Nat → (Nat → Nat) → Nat
  | 0, _ => 0
  | n + 1, f => sumR n f + f n
theorem sumR_le {f : Nat → Nat} {m : Nat} (h : ∀ i, f i ≤ m) : ∀ n, sumR n f ≤ n * m
  | 0 => by simp [sumR]
  | n + 1 => by
    have h1 := sumR_le h n
    have h2 := h n
    rw [sumR, Nat.succ_mul]; omega
/-- A chain's number: one byte more. -/
def hstep (n c : Nat) : Nat :=
  let a := (n + c) % 4294967296
  let b := (a + a * 1024 % 4294967296) % 4294967296
  b ^^^ (b / 64)
def hfin (n : Nat) : Nat :=
  let a := (n + n * 8 % 4294967296) % 4294967296
  let b := a ^^^ (a / 2048)
  (b + b * 32768 % 4294967296) % 4294967296
def hashL (l : List UInt8) : Nat := hfin (l.foldl (fun n c => hstep n c.toNat) 0)
def be32 (n : Nat) : List UInt8 := [UInt8.ofNat (n / 16777216), UInt8.ofNat (n / 65536), UInt8.ofNat (n / 256), UInt8.ofNat n]
def be16 (n : Nat) : List UInt8 := [UInt8.ofNat (n / 256), UInt8.ofNat n]
def tupBy (r a p b q : Nat) : List UInt8 := UInt8.ofNat r :: (be32 a ++ be16 p ++ be32 b ++ be16 q)
def hashOf (r a p b q : Nat) (n : Int) : Int := if n < 1 then 0 else ((hashL (tupBy r a p b q) % n.toNat : Nat) : Int)
namespace VD
variable (v : VD)
def putS (n : Int) : Bool := decide (0 ≤ n) && (decide (n < v.ns) && (v.S n.toNat).put)
def liveS (i : Nat) : Bool := (v.S i).put && (!(v.S i).dead && decide (v.now < (v.S i).e.dl))
def okS (i : Nat) : Bool := let x := (v.S i).e; chkB x.r x.p x.q x.r2 x.p2 x.q2 (decide (x.r = x.r2 ∧ x.a = x.a2 ∧ x.p = x.p2 ∧ x.b = x.b2 ∧ x.q = x.q2)) x.st x.dl x.n
/-- A slot is wrong. -/
def f1 (i : Nat) : Bool := let x := v.S i; (x.put && (!x.used || !v.okS i)) || (x.dead && (!x.used || !x.put))
def hash (x : EntD) (back : Bool) : Int := if back then hashOf x.r2 x.a2 x.p2 x.b2 x.q2 v.nc else hashOf x.r x.a x.p x.b x.q v.nc
/-- A link is wrong in a chain. -/
def badL (i k : Nat) : Bool := let l := v.C i k; !v.putS l.slot || decide (v.hash (v.S l.slot.toNat).e l.back ≠ (i : Int))
def f2 (i : Nat) : Bool := anyR (v.cn i) (v.badL i)
/-- How many links of a side stand for a slot in the first c chains. -/
def isL (c k i : Nat) (back : Bool) : Bool := decide ((v.C c k).slot = (i : Int)) && decide ((v.C c k).back = back)
def many (i : Nat) (back : Bool) (c : Nat) : Nat := sumR c fun c => cntR (v.cn c) fun k => v.isL c k i back
def wants (i : Nat) : Nat := if (v.S i).put then 1 else 0
def f2b (i : Nat) : Bool := decide (v.many i false v.nc ≠ v.wants i) || decide (v.many i true v.nc ≠ v.wants i)
def same (x : EntD) : Bool := decide (x.r = x.r2 ∧ x.a = x.a2 ∧ x.p = x.p2 ∧ x.b = x.b2 ∧ x.q = x.q2)
/-- An entry has a tuple of another one. -/
def meets (x y : EntD) : Bool :=
  (decide (x.r = y.r ∧ x.a = y.a ∧ x.p = y.p ∧ x.b = y.b ∧ x.q = y.q) || decide (x.r = y.r2 ∧ x.a = y.a2 ∧ x.p = y.p2 ∧ x.b = y.b2 ∧ x.q = y.q2)) ||
  (decide (x.r2 = y.r ∧ x.a2 = y.a ∧ x.p2 = y.p ∧ x.b2 = y.b ∧ x.q2 = y.q) || decide (x.r2 = y.r2 ∧ x.a2 = y.a2 ∧ x.p2 = y.p2 ∧ x.b2 = y.b2 ∧ x.q2 = y.q2))
def f3 (i : Nat) : Bool := v.liveS i && (same (v.S i).e || anyR v.ns fun k => !decide (k = i) && (v.liveS k && meets (v.S i).e (v.S k).e))
/-- A hold is of a row's outer endpoint. -/
def ofRow (r : RowD) (i k : Nat) : Bool := (v.S i).put && (decide ((v.S i).e.r = r.pr) && decide ((v.O i).1 k = r.oa ∧ (v.O i).2.1 k = r.op))
def other (r : RowD) (i k : Nat) : Bool := !decide ((v.O i).2.2.1 k = r.ia ∧ (v.O i).2.2.2 k = r.ip)
def nRow (r : RowD) (c : Nat) : Nat := sumR c fun i => cntR (v.S i).e.n (v.ofRow r i)
def oRow (r : RowD) (c : Nat) : Bool := anyR c fun i => anyR (v.S i).e.n fun k => v.ofRow r i k && v.other r i k
def f4 (j : Nat) : Bool := v.oRow (v.P j) v.ns || (decide ((v.nRow (v.P j) v.ns : Int) ≠ (v.P j).live) || decide ((v.P j).held < 0))
def resv (pr oa op : Nat) : Bool := anyR v.np fun k => decide ((v.P k).pr = pr) && decide ((v.P k).oa = oa ∧ (v.P k).op = op)
def f4b (i : Nat) : Bool := anyR (v.S i).e.n fun k => (v.S i).put && !v.resv (v.S i).e.r ((v.O i).1 k) ((v.O i).2.1 k)
def nQ (i : Nat) : Nat := cntR v.nq fun k => decide ((v.Q k).slot = (i : Int))
def f5 (i : Nat) : Bool := if (v.S i).dead then decide (v.nQ i ≠ 1) else decide (v.nQ i ≠ 0)
def nUsed : Nat := cntR v.ns fun i => (v.S i).used
def f6 : Bool := decide ((v.nUsed : Int) ≠ v.live) || decide (v.free < 0 ∨ v.gone < 0 ∨ (v.ns : Int) < v.free ∨ (v.ns : Int) < v.gone ∨ v.free + v.nUsed + v.gone ≠ (v.ns : Int))
end VD
/-- Faults of a kind. -/
def flt (kind off : Int) (p : Nat → Bool) : Nat → List (Int × Int)
  | 0 => []
  | n + 1 => flt kind off p n ++ if p n then [(kind, off + (n : Int))] else []
def VD.faults (v : VD) : List (Int × Int) :=
  flt 1 0 v.f1 v.ns ++ flt 2 0 v.f2 v.nc ++ flt 2 v.nc v.f2b v.ns ++ flt 3 0 v.f3 v.ns ++ flt 4 0 v.f4 v.np ++ flt 4 v.np v.f4b v.ns ++ flt 5 0 v.f5 v.ns ++ (if v.f6 then [(6, 0)] else [])
def flatF (l : List (Int × Int)) : List Value := l.flatMap fun x => [.int .i64 x.1, .int .i64 x.2]
theorem flt_len (kind off : Int) (p : Nat → Bool) : ∀ n, (flt kind off p n).length ≤ n
  | 0 => by simp [flt]
  | n + 1 => by
    have := flt_len kind off p n
    rw [flt, List.length_append]
    split <;> simp <;> omega
/-- A slice in memory: element i has the cells cs i. -/
def AtC (w : World) (a : Option Addr) (n k : Nat) (cs : Nat → List Value) : Prop := ∀ i, i < n → ∃ b o, a = some ⟨b, o, none⟩ ∧ b < w.heap.size ∧ ∀ j v, (cs i)[j]? = some v → w.cell? ⟨b, o + i * k + j, none⟩ = some v
theorem AtC.low {w w' : World} {a : Option Addr} {n k : Nat} {cs : Nat → List Value} (h : AtC w a n k cs) (hp : NoW w w') : AtC w' a n k cs := fun i hi => by
  obtain ⟨b, o, e, hl, hc⟩ := h i hi
  exact ⟨b, o, e, Nat.lt_of_lt_of_le hl hp.size, fun j v hj => (hp.cell (p := ⟨b, o + i * k + j, none⟩) hl id).trans (hc j v hj)⟩
end Go.Proofs.YtcimbbllefkdlaaGreatDoor
