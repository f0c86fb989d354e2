/- Chapter 18, EntriesAmong: both Clash (written by gename.py). -/
import Derived.Test.YtaiimkcmgiceeaaDoorAmD
namespace Go.Proofs.YtaiimkcmgiceeaaDoor
set_option linter.unusedVariables false
set_option linter.unusedSimpArgs false
open Go.RowKit Go.Lib Go.Sort
/-- Is a tuple one of an entry's? -/
def matB (x : EntD) (r a p b q : Nat) : Bool := decide (r = x.r ∧ a = x.a ∧ p = x.p ∧ b = x.b ∧ q = x.q) || decide (r = x.r2 ∧ a = x.a2 ∧ p = x.p2 ∧ b = x.b2 ∧ q = x.q2)
/-- How an entry stands to those from k on. -/
def clR (mo mr : Nat → Bool) : Nat → Nat → Int → Int
  | 0, _, how => how
  | m + 1, k, how => if mo k then 1 else clR mo mr m (k + 1) (if mr k then 2 else how)
theorem clR_yes {mo mr : Nat → Bool} {n k : Nat} {how : Int} (hk : k < n) (h : mo k = true) : clR mo mr (n - k) k how = 1 := by
  rw [show n - k = (n - (k + 1)) + 1 by omega, clR, if_pos h]
theorem clR_no {mo mr : Nat → Bool} {n k : Nat} {how : Int} (hk : k < n) (h : mo k = false) : clR mo mr (n - k) k how = clR mo mr (n - (k + 1)) (k + 1) (if mr k then 2 else how) := by
  rw [show n - k = (n - (k + 1)) + 1 by omega, clR, if_neg (by rw [h]; exact Bool.false_ne_true)]
def clE (E : Nat → EntD) (now : Int) (r a p b q : Nat) (i : Nat) : Bool := decide (now < (E i).dl) && matB (E i) r a p b q
set_option maxHeartbeats 8000000 in
set_option maxRecDepth 100000 in
theorem clash_ok (sl : Option Addr) (n c : Nat) (E : Nat → EntD) (now : Int) (r a p b q r2 a2 p2 b2 q2 : Nat) (st dl : Int) (h : Value) (hn : n ≤ 100) (w : World) (hE : Ents w sl n E) :
    Calls Tryd.prog 11 #[.slice sl n c, .int .i64 now, .agg #[.int .u8 (r : Nat), .int .u32 (a : Nat), .int .u16 (p : Nat), .int .u32 (b : Nat), .int .u16 (q : Nat), .int .u8 (r2 : Nat), .int .u32 (a2 : Nat), .int .u16 (p2 : Nat), .int .u32 (b2 : Nat), .int .u16 (q2 : Nat), .int .i64 st, .int .i64 dl, h]] w (Ret1 (.int .i64 (clR (clE E now r a p b q) (clE E now r2 a2 p2 b2 q2) n 0 0)) w) := by
  have HE := Lib.hid hE
  clear hE
  obtain ⟨tot, htot⟩ : ∃ z, z = (clR (clE E now r a p b q) (clE E now r2 a2 p2 b2 q2) n 0 0) := ⟨_, rfl⟩
  rw [← htot]
  have HT0 := Lib.hid htot
  clear htot
  go_enter Tryd.func11, Tryd.ntmps11
  have HN := Lib.hid (Fp.refl (fun _ => False) w)
  go_upto_region 1 with fail
  refine wp_gen (fun x1 hW => ?_)
  have hp := new_now hW
  have hB := new_blk hW
  clear hW
  have hGe := hid_ge HN
  replace HN := hid_now HN hp
  obtain ⟨gx, hgx⟩ : ∃ gx, gx = w.heap.size := ⟨_, rfl⟩
  have G_gx := Lib.hid (Nat.le_trans hGe (Nat.le_of_eq hgx.symm))
  rw [← hgx] at hB ⊢
  have B_gx := hB
  clear hB hGe hgx
  clear hp
  have HB0 := B_gx
  have HF0 := HN
  clear B_gx HN
  go_wp2_with fail
  go_loopg [7, 16] (n + 1) (fun gg hv iv wx => ∃ (k : Nat) (how : Int), k ≤ n ∧ gg = n + 1 - k ∧ iv = .int .i64 (k : Int) ∧ hv = .int .i64 how ∧ tot = clR (clE E now r a p b q) (clE E now r2 a2 p2 b2 q2) (n - k) k how ∧ wx.heap[gx]? = some (.cells #[.int .u8 (r : Nat), .int .u32 (a : Nat), .int .u16 (p : Nat), .int .u32 (b : Nat), .int .u16 (q : Nat), .int .u8 (r2 : Nat), .int .u32 (a2 : Nat), .int .u16 (p2 : Nat), .int .u32 (b2 : Nat), .int .u16 (q2 : Nat), .int .i64 st, .int .i64 dl, h] 32) ∧ NoW w wx)
  case atStart => exact ⟨0, 0, by omega, by omega, rfl, rfl, HT0.out, HB0.out, HF0.out⟩
  case round =>
    clear HB0 HF0 HT0
    obtain ⟨k, how, hk, hg, rfl, rfl, htot, hB, hf⟩ := hrel
    have Hg := Lib.hid hg
    have HN := Lib.hid hf
    have HT := Lib.hid htot
    have B_gx := Lib.hid hB
    clear hg hf htot hB
    by_cases hlt : k < n
    · obtain ⟨b0, o0, rfl, hc⟩ := (HE.out.low HN.out).at' k hlt
      have x0 : wr.cell? ⟨b0, o0 + k * 13, none⟩ = some (.int .u8 (E k).r) := hc 0 _ rfl
      have x1 : wr.cell? ⟨b0, o0 + k * 13 + 1, none⟩ = some (.int .u32 (E k).a) := hc 1 _ rfl
      have x2 : wr.cell? ⟨b0, o0 + k * 13 + 2, none⟩ = some (.int .u16 (E k).p) := hc 2 _ rfl
      have x3 : wr.cell? ⟨b0, o0 + k * 13 + 3, none⟩ = some (.int .u32 (E k).b) := hc 3 _ rfl
      have x4 : wr.cell? ⟨b0, o0 + k * 13 + 4, none⟩ = some (.int .u16 (E k).q) := hc 4 _ rfl
      have x5 : wr.cell? ⟨b0, o0 + k * 13 + 5, none⟩ = some (.int .u8 (E k).r2) := hc 5 _ rfl
      have x6 : wr.cell? ⟨b0, o0 + k * 13 + 6, none⟩ = some (.int .u32 (E k).a2) := hc 6 _ rfl
      have x7 : wr.cell? ⟨b0, o0 + k * 13 + 7, none⟩ = some (.int .u16 (E k).p2) := hc 7 _ rfl
      have x8 : wr.cell? ⟨b0, o0 + k * 13 + 8, none⟩ = some (.int .u32 (E k).b2) := hc 8 _ rfl
      have x9 : wr.cell? ⟨b0, o0 + k * 13 + 9, none⟩ = some (.int .u16 (E k).q2) := hc 9 _ rfl
      have x10 : wr.cell? ⟨b0, o0 + k * 13 + 10, none⟩ = some (.int .i64 (E k).st) := hc 10 _ rfl
      have x11 : wr.cell? ⟨b0, o0 + k * 13 + 11, none⟩ = some (.int .i64 (E k).dl) := hc 11 _ rfl
      have x12 : wr.cell? ⟨b0, o0 + k * 13 + 12, none⟩ = some (.slice (E k).ad (E k).n (E k).c) := hc 12 _ rfl
      clear hc
      have hkk : decide ((k : Int) < (n : Int)) = true := decide_eq_true (by omega)
      have lb : b0 < wr.heap.size := cell_lt x0
      rcases hl : decide (now < (E k).dl) with _ | _
      · have KL := Lib.hid (fun W => live_ok (E k).r (E k).a (E k).p (E k).b (E k).q (E k).r2 (E k).a2 (E k).p2 (E k).b2 (E k).q2 (E k).st (E k).dl (.slice (E k).ad (E k).n (E k).c) now W)
        rw [hl] at KL
        have HT2 : Hid (tot = clR (clE E now r a p b q) (clE E now r2 a2 p2 b2 q2) (n - (k + 1)) (k + 1) how) := Lib.hid (HT.out.trans (by rw [clR_no hlt (by unfold clE; rw [hl]; rfl)]; rw [show clE E now r2 a2 p2 b2 q2 k = false by unfold clE; rw [hl]; rfl]; rfl))
        clear HT hl
        go_upto_region 5 with fail
        clear x0 x1 x2 x3 x4 x5 x6 x7 x8 x9 x10 x11 x12
        refine wp_gen (fun y1 hW => ?_)
        have l2gx := hid_lt B_gx
        have hp := new_now hW
        have hB := new_blk hW
        clear hW
        have hGe := hid_ge HN
        replace HN := hid_now HN hp
        replace B_gx := hid_blk B_gx hp
        obtain ⟨g, hg⟩ : ∃ g, g = wr.heap.size := ⟨_, rfl⟩
        have G_g := Lib.hid (Nat.le_trans hGe (Nat.le_of_eq hg.symm))
        have n_gx_g : ¬ gx = g := by omega
        have n_g_gx : ¬ g = gx := by omega
        clear l2gx
        rw [← hg] at hB ⊢
        have B_g := hB
        clear hB hGe hg
        clear hp
        have cg0 := cell_at B_g 0 rfl
        have cg1 := cell_at B_g 1 rfl
        have cg2 := cell_at B_g 2 rfl
        have cg3 := cell_at B_g 3 rfl
        have cg4 := cell_at B_g 4 rfl
        have cg5 := cell_at B_g 5 rfl
        have cg6 := cell_at B_g 6 rfl
        have cg7 := cell_at B_g 7 rfl
        have cg8 := cell_at B_g 8 rfl
        have cg9 := cell_at B_g 9 rfl
        have cg10 := cell_at B_g 10 rfl
        have cg11 := cell_at B_g 11 rfl
        have cg12 := cell_at B_g 12 rfl
        have zg := froz_at B_g
        have lg := hid_lt B_g
        go_wp2_with fail
        clear cg0 cg1 cg2 cg3 cg4 cg5 cg6 cg7 cg8 cg9 cg10 cg11 cg12 zg lg
        refine (show Calls _ _ _ _ _ from KL.out _).mono ?_
        rintro e y2 ⟨rfl, hp⟩
        replace HN := hid_now HN hp
        replace B_gx := hid_blk B_gx hp
        replace B_g := hid_blk B_g hp
        clear hp
        go_wp2_with fail
        go_roundg (n - k)
        case measure => have := Hg.out; omega
        case rel => exact ⟨k + 1, how, by omega, by omega, by go_num, rfl, HT2.out, B_gx.out, HN.out⟩
      · rcases hmo : matB (E k) r a p b q with _ | _
        · rcases hmr : matB (E k) r2 a2 p2 b2 q2 with _ | _
          · have KL := Lib.hid (fun W => live_ok (E k).r (E k).a (E k).p (E k).b (E k).q (E k).r2 (E k).a2 (E k).p2 (E k).b2 (E k).q2 (E k).st (E k).dl (.slice (E k).ad (E k).n (E k).c) now W)
            rw [hl] at KL
            have KO := Lib.hid (fun W => ematch_ok (E k).r (E k).a (E k).p (E k).b (E k).q (E k).r2 (E k).a2 (E k).p2 (E k).b2 (E k).q2 r a p b q (E k).st (E k).dl (.slice (E k).ad (E k).n (E k).c) W)
            rw [show (decide (r = (E k).r ∧ a = (E k).a ∧ p = (E k).p ∧ b = (E k).b ∧ q = (E k).q) || decide (r = (E k).r2 ∧ a = (E k).a2 ∧ p = (E k).p2 ∧ b = (E k).b2 ∧ q = (E k).q2)) = false from hmo] at KO
            generalize (!decide (r = (E k).r ∧ a = (E k).a ∧ p = (E k).p ∧ b = (E k).b ∧ q = (E k).q) && decide (r = (E k).r2 ∧ a = (E k).a2 ∧ p = (E k).p2 ∧ b = (E k).b2 ∧ q = (E k).q2)) = z1 at KO
            have KR := Lib.hid (fun W => ematch_ok (E k).r (E k).a (E k).p (E k).b (E k).q (E k).r2 (E k).a2 (E k).p2 (E k).b2 (E k).q2 r2 a2 p2 b2 q2 (E k).st (E k).dl (.slice (E k).ad (E k).n (E k).c) W)
            rw [show (decide (r2 = (E k).r ∧ a2 = (E k).a ∧ p2 = (E k).p ∧ b2 = (E k).b ∧ q2 = (E k).q) || decide (r2 = (E k).r2 ∧ a2 = (E k).a2 ∧ p2 = (E k).p2 ∧ b2 = (E k).b2 ∧ q2 = (E k).q2)) = false from hmr] at KR
            generalize (!decide (r2 = (E k).r ∧ a2 = (E k).a ∧ p2 = (E k).p ∧ b2 = (E k).b ∧ q2 = (E k).q) && decide (r2 = (E k).r2 ∧ a2 = (E k).a2 ∧ p2 = (E k).p2 ∧ b2 = (E k).b2 ∧ q2 = (E k).q2)) = z2 at KR
            have HT2 : Hid (tot = clR (clE E now r a p b q) (clE E now r2 a2 p2 b2 q2) (n - (k + 1)) (k + 1) how) := Lib.hid (HT.out.trans (by rw [clR_no hlt (by unfold clE; rw [hl, hmo]; rfl)]; rw [show clE E now r2 a2 p2 b2 q2 k = false by unfold clE; rw [hl, hmr]; rfl]; rfl))
            clear HT hl hmo hmr
            go_upto_region 5 with fail
            clear x0 x1 x2 x3 x4 x5 x6 x7 x8 x9 x10 x11 x12
            refine wp_gen (fun y1 hW => ?_)
            have l2gx := hid_lt B_gx
            have hp := new_now hW
            have hB := new_blk hW
            clear hW
            have hGe := hid_ge HN
            replace HN := hid_now HN hp
            replace B_gx := hid_blk B_gx hp
            obtain ⟨g, hg⟩ : ∃ g, g = wr.heap.size := ⟨_, rfl⟩
            have G_g := Lib.hid (Nat.le_trans hGe (Nat.le_of_eq hg.symm))
            have n_gx_g : ¬ gx = g := by omega
            have n_g_gx : ¬ g = gx := by omega
            clear l2gx
            rw [← hg] at hB ⊢
            have B_g := hB
            clear hB hGe hg
            clear hp
            have cg0 := cell_at B_g 0 rfl
            have cg1 := cell_at B_g 1 rfl
            have cg2 := cell_at B_g 2 rfl
            have cg3 := cell_at B_g 3 rfl
            have cg4 := cell_at B_g 4 rfl
            have cg5 := cell_at B_g 5 rfl
            have cg6 := cell_at B_g 6 rfl
            have cg7 := cell_at B_g 7 rfl
            have cg8 := cell_at B_g 8 rfl
            have cg9 := cell_at B_g 9 rfl
            have cg10 := cell_at B_g 10 rfl
            have cg11 := cell_at B_g 11 rfl
            have cg12 := cell_at B_g 12 rfl
            have zg := froz_at B_g
            have lg := hid_lt B_g
            go_wp2_with fail
            clear cg0 cg1 cg2 cg3 cg4 cg5 cg6 cg7 cg8 cg9 cg10 cg11 cg12 zg lg
            refine (show Calls _ _ _ _ _ from KL.out _).mono ?_
            rintro e y2 ⟨rfl, hp⟩
            replace HN := hid_now HN hp
            replace B_gx := hid_blk B_gx hp
            replace B_g := hid_blk B_g hp
            clear hp
            have cg0 := cell_at B_g 0 rfl
            have cg1 := cell_at B_g 1 rfl
            have cg2 := cell_at B_g 2 rfl
            have cg3 := cell_at B_g 3 rfl
            have cg4 := cell_at B_g 4 rfl
            have cg5 := cell_at B_g 5 rfl
            have cg6 := cell_at B_g 6 rfl
            have cg7 := cell_at B_g 7 rfl
            have cg8 := cell_at B_g 8 rfl
            have cg9 := cell_at B_g 9 rfl
            have cg10 := cell_at B_g 10 rfl
            have cg11 := cell_at B_g 11 rfl
            have cg12 := cell_at B_g 12 rfl
            have zg := froz_at B_g
            have lg := hid_lt B_g
            have cgx0 := cell_at B_gx 0 rfl
            have cgx1 := cell_at B_gx 1 rfl
            have cgx2 := cell_at B_gx 2 rfl
            have cgx3 := cell_at B_gx 3 rfl
            have cgx4 := cell_at B_gx 4 rfl
            have zgx := froz_at B_gx
            have lgx := hid_lt B_gx
            go_wp2_with fail
            clear cg0 cg1 cg2 cg3 cg4 cg5 cg6 cg7 cg8 cg9 cg10 cg11 cg12 zg lg cgx0 cgx1 cgx2 cgx3 cgx4 zgx lgx
            refine (show Calls _ _ _ _ _ from KO.out _).mono ?_
            rintro e y3 ⟨rfl, hp⟩
            replace HN := hid_now HN hp
            replace B_gx := hid_blk B_gx hp
            replace B_g := hid_blk B_g hp
            clear hp
            have cg0 := cell_at B_g 0 rfl
            have cg1 := cell_at B_g 1 rfl
            have cg2 := cell_at B_g 2 rfl
            have cg3 := cell_at B_g 3 rfl
            have cg4 := cell_at B_g 4 rfl
            have cg5 := cell_at B_g 5 rfl
            have cg6 := cell_at B_g 6 rfl
            have cg7 := cell_at B_g 7 rfl
            have cg8 := cell_at B_g 8 rfl
            have cg9 := cell_at B_g 9 rfl
            have cg10 := cell_at B_g 10 rfl
            have cg11 := cell_at B_g 11 rfl
            have cg12 := cell_at B_g 12 rfl
            have zg := froz_at B_g
            have lg := hid_lt B_g
            have cgx5 := cell_at B_gx 5 rfl
            have cgx6 := cell_at B_gx 6 rfl
            have cgx7 := cell_at B_gx 7 rfl
            have cgx8 := cell_at B_gx 8 rfl
            have cgx9 := cell_at B_gx 9 rfl
            have zgx := froz_at B_gx
            have lgx := hid_lt B_gx
            go_wp2_with fail
            clear cg0 cg1 cg2 cg3 cg4 cg5 cg6 cg7 cg8 cg9 cg10 cg11 cg12 zg lg cgx5 cgx6 cgx7 cgx8 cgx9 zgx lgx
            refine (show Calls _ _ _ _ _ from KR.out _).mono ?_
            rintro e y4 ⟨rfl, hp⟩
            replace HN := hid_now HN hp
            replace B_gx := hid_blk B_gx hp
            replace B_g := hid_blk B_g hp
            clear hp
            go_wp2_with fail
            go_roundg (n - k)
            case measure => have := Hg.out; omega
            case rel => exact ⟨k + 1, how, by omega, by omega, by go_num, rfl, HT2.out, B_gx.out, HN.out⟩
          · have KL := Lib.hid (fun W => live_ok (E k).r (E k).a (E k).p (E k).b (E k).q (E k).r2 (E k).a2 (E k).p2 (E k).b2 (E k).q2 (E k).st (E k).dl (.slice (E k).ad (E k).n (E k).c) now W)
            rw [hl] at KL
            have KO := Lib.hid (fun W => ematch_ok (E k).r (E k).a (E k).p (E k).b (E k).q (E k).r2 (E k).a2 (E k).p2 (E k).b2 (E k).q2 r a p b q (E k).st (E k).dl (.slice (E k).ad (E k).n (E k).c) W)
            rw [show (decide (r = (E k).r ∧ a = (E k).a ∧ p = (E k).p ∧ b = (E k).b ∧ q = (E k).q) || decide (r = (E k).r2 ∧ a = (E k).a2 ∧ p = (E k).p2 ∧ b = (E k).b2 ∧ q = (E k).q2)) = false from hmo] at KO
            generalize (!decide (r = (E k).r ∧ a = (E k).a ∧ p = (E k).p ∧ b = (E k).b ∧ q = (E k).q) && decide (r = (E k).r2 ∧ a = (E k).a2 ∧ p = (E k).p2 ∧ b = (E k).b2 ∧ q = (E k).q2)) = z1 at KO
            have KR := Lib.hid (fun W => ematch_ok (E k).r (E k).a (E k).p (E k).b (E k).q (E k).r2 (E k).a2 (E k).p2 (E k).b2 (E k).q2 r2 a2 p2 b2 q2 (E k).st (E k).dl (.slice (E k).ad (E k).n (E k).c) W)
            rw [show (decide (r2 = (E k).r ∧ a2 = (E k).a ∧ p2 = (E k).p ∧ b2 = (E k).b ∧ q2 = (E k).q) || decide (r2 = (E k).r2 ∧ a2 = (E k).a2 ∧ p2 = (E k).p2 ∧ b2 = (E k).b2 ∧ q2 = (E k).q2)) = true from hmr] at KR
            generalize (!decide (r2 = (E k).r ∧ a2 = (E k).a ∧ p2 = (E k).p ∧ b2 = (E k).b ∧ q2 = (E k).q) && decide (r2 = (E k).r2 ∧ a2 = (E k).a2 ∧ p2 = (E k).p2 ∧ b2 = (E k).b2 ∧ q2 = (E k).q2)) = z2 at KR
            have HT2 : Hid (tot = clR (clE E now r a p b q) (clE E now r2 a2 p2 b2 q2) (n - (k + 1)) (k + 1) 2) := Lib.hid (HT.out.trans (by rw [clR_no hlt (by unfold clE; rw [hl, hmo]; rfl)]; rw [show clE E now r2 a2 p2 b2 q2 k = true by unfold clE; rw [hl, hmr]; rfl]; rfl))
            clear HT hl hmo hmr
            go_upto_region 5 with fail
            clear x0 x1 x2 x3 x4 x5 x6 x7 x8 x9 x10 x11 x12
            refine wp_gen (fun y1 hW => ?_)
            have l2gx := hid_lt B_gx
            have hp := new_now hW
            have hB := new_blk hW
            clear hW
            have hGe := hid_ge HN
            replace HN := hid_now HN hp
            replace B_gx := hid_blk B_gx hp
            obtain ⟨g, hg⟩ : ∃ g, g = wr.heap.size := ⟨_, rfl⟩
            have G_g := Lib.hid (Nat.le_trans hGe (Nat.le_of_eq hg.symm))
            have n_gx_g : ¬ gx = g := by omega
            have n_g_gx : ¬ g = gx := by omega
            clear l2gx
            rw [← hg] at hB ⊢
            have B_g := hB
            clear hB hGe hg
            clear hp
            have cg0 := cell_at B_g 0 rfl
            have cg1 := cell_at B_g 1 rfl
            have cg2 := cell_at B_g 2 rfl
            have cg3 := cell_at B_g 3 rfl
            have cg4 := cell_at B_g 4 rfl
            have cg5 := cell_at B_g 5 rfl
            have cg6 := cell_at B_g 6 rfl
            have cg7 := cell_at B_g 7 rfl
            have cg8 := cell_at B_g 8 rfl
            have cg9 := cell_at B_g 9 rfl
            have cg10 := cell_at B_g 10 rfl
            have cg11 := cell_at B_g 11 rfl
            have cg12 := cell_at B_g 12 rfl
            have zg := froz_at B_g
            have lg := hid_lt B_g
            go_wp2_with fail
            clear cg0 cg1 cg2 cg3 cg4 cg5 cg6 cg7 cg8 cg9 cg10 cg11 cg12 zg lg
            refine (show Calls _ _ _ _ _ from KL.out _).mono ?_
            rintro e y2 ⟨rfl, hp⟩
            replace HN := hid_now HN hp
            replace B_gx := hid_blk B_gx hp
            replace B_g := hid_blk B_g hp
            clear hp
            have cg0 := cell_at B_g 0 rfl
            have cg1 := cell_at B_g 1 rfl
            have cg2 := cell_at B_g 2 rfl
            have cg3 := cell_at B_g 3 rfl
            have cg4 := cell_at B_g 4 rfl
            have cg5 := cell_at B_g 5 rfl
            have cg6 := cell_at B_g 6 rfl
            have cg7 := cell_at B_g 7 rfl
            have cg8 := cell_at B_g 8 rfl
            have cg9 := cell_at B_g 9 rfl
            have cg10 := cell_at B_g 10 rfl
            have cg11 := cell_at B_g 11 rfl
            have cg12 := cell_at B_g 12 rfl
            have zg := froz_at B_g
            have lg := hid_lt B_g
            have cgx0 := cell_at B_gx 0 rfl
            have cgx1 := cell_at B_gx 1 rfl
            have cgx2 := cell_at B_gx 2 rfl
            have cgx3 := cell_at B_gx 3 rfl
            have cgx4 := cell_at B_gx 4 rfl
            have zgx := froz_at B_gx
            have lgx := hid_lt B_gx
            go_wp2_with fail
            clear cg0 cg1 cg2 cg3 cg4 cg5 cg6 cg7 cg8 cg9 cg10 cg11 cg12 zg lg cgx0 cgx1 cgx2 cgx3 cgx4 zgx lgx
            refine (show Calls _ _ _ _ _ from KO.out _).mono ?_
            rintro e y3 ⟨rfl, hp⟩
            replace HN := hid_now HN hp
            replace B_gx := hid_blk B_gx hp
            replace B_g := hid_blk B_g hp
            clear hp
            have cg0 := cell_at B_g 0 rfl
            have cg1 := cell_at B_g 1 rfl
            have cg2 := cell_at B_g 2 rfl
            have cg3 := cell_at B_g 3 rfl
            have cg4 := cell_at B_g 4 rfl
            have cg5 := cell_at B_g 5 rfl
            have cg6 := cell_at B_g 6 rfl
            have cg7 := cell_at B_g 7 rfl
            have cg8 := cell_at B_g 8 rfl
            have cg9 := cell_at B_g 9 rfl
            have cg10 := cell_at B_g 10 rfl
            have cg11 := cell_at B_g 11 rfl
            have cg12 := cell_at B_g 12 rfl
            have zg := froz_at B_g
            have lg := hid_lt B_g
            have cgx5 := cell_at B_gx 5 rfl
            have cgx6 := cell_at B_gx 6 rfl
            have cgx7 := cell_at B_gx 7 rfl
            have cgx8 := cell_at B_gx 8 rfl
            have cgx9 := cell_at B_gx 9 rfl
            have zgx := froz_at B_gx
            have lgx := hid_lt B_gx
            go_wp2_with fail
            clear cg0 cg1 cg2 cg3 cg4 cg5 cg6 cg7 cg8 cg9 cg10 cg11 cg12 zg lg cgx5 cgx6 cgx7 cgx8 cgx9 zgx lgx
            refine (show Calls _ _ _ _ _ from KR.out _).mono ?_
            rintro e y4 ⟨rfl, hp⟩
            replace HN := hid_now HN hp
            replace B_gx := hid_blk B_gx hp
            replace B_g := hid_blk B_g hp
            clear hp
            go_wp2_with fail
            go_roundg (n - k)
            case measure => have := Hg.out; omega
            case rel => exact ⟨k + 1, 2, by omega, by omega, by go_num, rfl, HT2.out, B_gx.out, HN.out⟩
        · have KL := Lib.hid (fun W => live_ok (E k).r (E k).a (E k).p (E k).b (E k).q (E k).r2 (E k).a2 (E k).p2 (E k).b2 (E k).q2 (E k).st (E k).dl (.slice (E k).ad (E k).n (E k).c) now W)
          rw [hl] at KL
          have KO := Lib.hid (fun W => ematch_ok (E k).r (E k).a (E k).p (E k).b (E k).q (E k).r2 (E k).a2 (E k).p2 (E k).b2 (E k).q2 r a p b q (E k).st (E k).dl (.slice (E k).ad (E k).n (E k).c) W)
          rw [show (decide (r = (E k).r ∧ a = (E k).a ∧ p = (E k).p ∧ b = (E k).b ∧ q = (E k).q) || decide (r = (E k).r2 ∧ a = (E k).a2 ∧ p = (E k).p2 ∧ b = (E k).b2 ∧ q = (E k).q2)) = true from hmo] at KO
          generalize (!decide (r = (E k).r ∧ a = (E k).a ∧ p = (E k).p ∧ b = (E k).b ∧ q = (E k).q) && decide (r = (E k).r2 ∧ a = (E k).a2 ∧ p = (E k).p2 ∧ b = (E k).b2 ∧ q = (E k).q2)) = z1 at KO
          have ht2 : tot = 1 := HT.out.trans (clR_yes hlt (by unfold clE; rw [hl, hmo]; rfl))
          clear HT hl hmo
          go_upto_region 5 with fail
          clear x0 x1 x2 x3 x4 x5 x6 x7 x8 x9 x10 x11 x12
          refine wp_gen (fun y1 hW => ?_)
          have l2gx := hid_lt B_gx
          have hp := new_now hW
          have hB := new_blk hW
          clear hW
          have hGe := hid_ge HN
          replace HN := hid_now HN hp
          replace B_gx := hid_blk B_gx hp
          obtain ⟨g, hg⟩ : ∃ g, g = wr.heap.size := ⟨_, rfl⟩
          have G_g := Lib.hid (Nat.le_trans hGe (Nat.le_of_eq hg.symm))
          have n_gx_g : ¬ gx = g := by omega
          have n_g_gx : ¬ g = gx := by omega
          clear l2gx
          rw [← hg] at hB ⊢
          have B_g := hB
          clear hB hGe hg
          clear hp
          have cg0 := cell_at B_g 0 rfl
          have cg1 := cell_at B_g 1 rfl
          have cg2 := cell_at B_g 2 rfl
          have cg3 := cell_at B_g 3 rfl
          have cg4 := cell_at B_g 4 rfl
          have cg5 := cell_at B_g 5 rfl
          have cg6 := cell_at B_g 6 rfl
          have cg7 := cell_at B_g 7 rfl
          have cg8 := cell_at B_g 8 rfl
          have cg9 := cell_at B_g 9 rfl
          have cg10 := cell_at B_g 10 rfl
          have cg11 := cell_at B_g 11 rfl
          have cg12 := cell_at B_g 12 rfl
          have zg := froz_at B_g
          have lg := hid_lt B_g
          go_wp2_with fail
          clear cg0 cg1 cg2 cg3 cg4 cg5 cg6 cg7 cg8 cg9 cg10 cg11 cg12 zg lg
          refine (show Calls _ _ _ _ _ from KL.out _).mono ?_
          rintro e y2 ⟨rfl, hp⟩
          replace HN := hid_now HN hp
          replace B_gx := hid_blk B_gx hp
          replace B_g := hid_blk B_g hp
          clear hp
          have cg0 := cell_at B_g 0 rfl
          have cg1 := cell_at B_g 1 rfl
          have cg2 := cell_at B_g 2 rfl
          have cg3 := cell_at B_g 3 rfl
          have cg4 := cell_at B_g 4 rfl
          have cg5 := cell_at B_g 5 rfl
          have cg6 := cell_at B_g 6 rfl
          have cg7 := cell_at B_g 7 rfl
          have cg8 := cell_at B_g 8 rfl
          have cg9 := cell_at B_g 9 rfl
          have cg10 := cell_at B_g 10 rfl
          have cg11 := cell_at B_g 11 rfl
          have cg12 := cell_at B_g 12 rfl
          have zg := froz_at B_g
          have lg := hid_lt B_g
          have cgx0 := cell_at B_gx 0 rfl
          have cgx1 := cell_at B_gx 1 rfl
          have cgx2 := cell_at B_gx 2 rfl
          have cgx3 := cell_at B_gx 3 rfl
          have cgx4 := cell_at B_gx 4 rfl
          have zgx := froz_at B_gx
          have lgx := hid_lt B_gx
          go_wp2_with fail
          clear cg0 cg1 cg2 cg3 cg4 cg5 cg6 cg7 cg8 cg9 cg10 cg11 cg12 zg lg cgx0 cgx1 cgx2 cgx3 cgx4 zgx lgx
          refine (show Calls _ _ _ _ _ from KO.out _).mono ?_
          rintro e y3 ⟨rfl, hp⟩
          replace HN := hid_now HN hp
          replace B_gx := hid_blk B_gx hp
          replace B_g := hid_blk B_g hp
          clear hp
          go_wp2_with fail
          subst ht2
          go_ret
          exact ⟨rfl, HN.out⟩
    · obtain rfl : k = n := by omega
      have htot := HT.out
      rw [Nat.sub_self] at htot
      subst htot
      clear HT
      go_wp2_with fail
      go_ret
      exact ⟨rfl, HN.out⟩
set_option maxHeartbeats 8000000 in
set_option maxRecDepth 100000 in
theorem rclash_ok (sl : Option Addr) (n c : Nat) (E : Nat → EntD) (now : Int) (r a p b q r2 a2 p2 b2 q2 : Nat) (st dl : Int) (h : Value) (hn : n ≤ 100) (w : World) (hE : Ents w sl n E) :
    Calls Tryd.prog 12 #[.slice sl n c, .int .i64 now, .agg #[.int .u8 (r : Nat), .int .u32 (a : Nat), .int .u16 (p : Nat), .int .u32 (b : Nat), .int .u16 (q : Nat), .int .u8 (r2 : Nat), .int .u32 (a2 : Nat), .int .u16 (p2 : Nat), .int .u32 (b2 : Nat), .int .u16 (q2 : Nat), .int .i64 st, .int .i64 dl, h]] w (Ret1 (.int .i64 (clR (clE E now r a p b q) (clE E now r2 a2 p2 b2 q2) n 0 0)) w) := by
  have HE := Lib.hid hE
  clear hE
  obtain ⟨tot, htot⟩ : ∃ z, z = (clR (clE E now r a p b q) (clE E now r2 a2 p2 b2 q2) n 0 0) := ⟨_, rfl⟩
  rw [← htot]
  have HT0 := Lib.hid htot
  clear htot
  go_enter Tryd.func12, Tryd.ntmps12
  have HN := Lib.hid (Fp.refl (fun _ => False) w)
  go_upto_region 1 with fail
  refine wp_gen (fun x1 hW => ?_)
  have hp := new_now hW
  have hB := new_blk hW
  clear hW
  have hGe := hid_ge HN
  replace HN := hid_now HN hp
  obtain ⟨gx, hgx⟩ : ∃ gx, gx = w.heap.size := ⟨_, rfl⟩
  have G_gx := Lib.hid (Nat.le_trans hGe (Nat.le_of_eq hgx.symm))
  rw [← hgx] at hB ⊢
  have B_gx := hB
  clear hB hGe hgx
  clear hp
  have HB0 := B_gx
  have HF0 := HN
  clear B_gx HN
  go_wp2_with fail
  go_loopg [7, 8] (n + 1) (fun gg hv iv wx => ∃ (k : Nat) (how : Int), k ≤ n ∧ gg = n + 1 - k ∧ iv = .int .i64 (k : Int) ∧ hv = .int .i64 how ∧ tot = clR (clE E now r a p b q) (clE E now r2 a2 p2 b2 q2) (n - k) k how ∧ wx.heap[gx]? = some (.cells #[.int .u8 (r : Nat), .int .u32 (a : Nat), .int .u16 (p : Nat), .int .u32 (b : Nat), .int .u16 (q : Nat), .int .u8 (r2 : Nat), .int .u32 (a2 : Nat), .int .u16 (p2 : Nat), .int .u32 (b2 : Nat), .int .u16 (q2 : Nat), .int .i64 st, .int .i64 dl, h] 45) ∧ NoW w wx)
  case atStart => exact ⟨0, 0, by omega, by omega, rfl, rfl, HT0.out, HB0.out, HF0.out⟩
  case round =>
    clear HB0 HF0 HT0
    obtain ⟨k, how, hk, hg, rfl, rfl, htot, hB, hf⟩ := hrel
    have Hg := Lib.hid hg
    have HN := Lib.hid hf
    have HT := Lib.hid htot
    have B_gx := Lib.hid hB
    clear hg hf htot hB
    by_cases hlt : k < n
    · obtain ⟨b0, o0, rfl, hc⟩ := (HE.out.low HN.out).at' k hlt
      have x0 : wr.cell? ⟨b0, o0 + k * 13, none⟩ = some (.int .u8 (E k).r) := hc 0 _ rfl
      have x1 : wr.cell? ⟨b0, o0 + k * 13 + 1, none⟩ = some (.int .u32 (E k).a) := hc 1 _ rfl
      have x2 : wr.cell? ⟨b0, o0 + k * 13 + 2, none⟩ = some (.int .u16 (E k).p) := hc 2 _ rfl
      have x3 : wr.cell? ⟨b0, o0 + k * 13 + 3, none⟩ = some (.int .u32 (E k).b) := hc 3 _ rfl
      have x4 : wr.cell? ⟨b0, o0 + k * 13 + 4, none⟩ = some (.int .u16 (E k).q) := hc 4 _ rfl
      have x5 : wr.cell? ⟨b0, o0 + k * 13 + 5, none⟩ = some (.int .u8 (E k).r2) := hc 5 _ rfl
      have x6 : wr.cell? ⟨b0, o0 + k * 13 + 6, none⟩ = some (.int .u32 (E k).a2) := hc 6 _ rfl
      have x7 : wr.cell? ⟨b0, o0 + k * 13 + 7, none⟩ = some (.int .u16 (E k).p2) := hc 7 _ rfl
      have x8 : wr.cell? ⟨b0, o0 + k * 13 + 8, none⟩ = some (.int .u32 (E k).b2) := hc 8 _ rfl
      have x9 : wr.cell? ⟨b0, o0 + k * 13 + 9, none⟩ = some (.int .u16 (E k).q2) := hc 9 _ rfl
      have x10 : wr.cell? ⟨b0, o0 + k * 13 + 10, none⟩ = some (.int .i64 (E k).st) := hc 10 _ rfl
      have x11 : wr.cell? ⟨b0, o0 + k * 13 + 11, none⟩ = some (.int .i64 (E k).dl) := hc 11 _ rfl
      have x12 : wr.cell? ⟨b0, o0 + k * 13 + 12, none⟩ = some (.slice (E k).ad (E k).n (E k).c) := hc 12 _ rfl
      clear hc
      have hkk : decide ((k : Int) < (n : Int)) = true := decide_eq_true (by omega)
      have lb : b0 < wr.heap.size := cell_lt x0
      rcases hl : decide (now < (E k).dl) with _ | _
      · have KL := Lib.hid (fun W => rlive_ok (E k).r (E k).a (E k).p (E k).b (E k).q (E k).r2 (E k).a2 (E k).p2 (E k).b2 (E k).q2 (E k).st (E k).dl (.slice (E k).ad (E k).n (E k).c) now W)
        rw [hl] at KL
        have KO := Lib.hid (fun W => rmatch_ok (E k).r (E k).a (E k).p (E k).b (E k).q (E k).r2 (E k).a2 (E k).p2 (E k).b2 (E k).q2 r a p b q (E k).st (E k).dl (.slice (E k).ad (E k).n (E k).c) W)
        generalize hq1 : (decide (r = (E k).r ∧ a = (E k).a ∧ p = (E k).p ∧ b = (E k).b ∧ q = (E k).q) || decide (r = (E k).r2 ∧ a = (E k).a2 ∧ p = (E k).p2 ∧ b = (E k).b2 ∧ q = (E k).q2)) = m1 at KO
        generalize (!decide (r = (E k).r ∧ a = (E k).a ∧ p = (E k).p ∧ b = (E k).b ∧ q = (E k).q) && decide (r = (E k).r2 ∧ a = (E k).a2 ∧ p = (E k).p2 ∧ b = (E k).b2 ∧ q = (E k).q2)) = z1 at KO
        have KR := Lib.hid (fun W => rmatch_ok (E k).r (E k).a (E k).p (E k).b (E k).q (E k).r2 (E k).a2 (E k).p2 (E k).b2 (E k).q2 r2 a2 p2 b2 q2 (E k).st (E k).dl (.slice (E k).ad (E k).n (E k).c) W)
        generalize hq2 : (decide (r2 = (E k).r ∧ a2 = (E k).a ∧ p2 = (E k).p ∧ b2 = (E k).b ∧ q2 = (E k).q) || decide (r2 = (E k).r2 ∧ a2 = (E k).a2 ∧ p2 = (E k).p2 ∧ b2 = (E k).b2 ∧ q2 = (E k).q2)) = m2 at KR
        generalize (!decide (r2 = (E k).r ∧ a2 = (E k).a ∧ p2 = (E k).p ∧ b2 = (E k).b ∧ q2 = (E k).q) && decide (r2 = (E k).r2 ∧ a2 = (E k).a2 ∧ p2 = (E k).p2 ∧ b2 = (E k).b2 ∧ q2 = (E k).q2)) = z2 at KR
        have HT2 : Hid (tot = clR (clE E now r a p b q) (clE E now r2 a2 p2 b2 q2) (n - (k + 1)) (k + 1) how) := Lib.hid (HT.out.trans (by rw [clR_no hlt (by unfold clE; rw [hl]; rfl)]; rw [show clE E now r2 a2 p2 b2 q2 k = false by unfold clE; rw [hl]; rfl]; rfl))
        clear HT hq1 hq2 hl
        have lgx := hid_lt B_gx
        have g0 := cell_at B_gx 0 rfl
        have g1 := cell_at B_gx 1 rfl
        have g2 := cell_at B_gx 2 rfl
        have g3 := cell_at B_gx 3 rfl
        have g4 := cell_at B_gx 4 rfl
        go_upto_region 5 with fail
        refine wp_region_held_drew (S := fun wx => NoW wr wx) (by kernel_rfl) (Fp.drew (Fp.refl _ _)) (fun hHeld0 => ?_)
        refine any_eq hHeld0 (fun y1 hW hHeld => ?_)
        clear hHeld0
        replace B_gx := hid_blk B_gx (noW_drew hW)
        clear hW
        (refine take_at 0 (some 20) rfl rfl (by kernel_rfl) (by kernel_rfl) (by kernel_rfl) (fun _ _ _ h => h) (v := ?_) (by kernel_rfl) ?_ (by assumption) ?_; rotate_left; (focus (intro wS hSw; skip; go_simp; try with_reducible rfl)); (try simp only [Act.put, List.setIfInBounds_toArray, List.set_cons_zero, List.set_cons_succ]))
        (refine take_at 1 (some 21) rfl rfl (by kernel_rfl) (by kernel_rfl) (by kernel_rfl) (fun _ _ _ h => h) (v := ?_) (by kernel_rfl) ?_ (by assumption) ?_; rotate_left; (focus (intro wS hSw; skip; go_simp; try with_reducible rfl)); (try simp only [Act.put, List.setIfInBounds_toArray, List.set_cons_zero, List.set_cons_succ]))
        (refine take_at 2 (some 22) rfl rfl (by kernel_rfl) (by kernel_rfl) (by kernel_rfl) (fun _ _ _ h => h) (v := ?_) (by kernel_rfl) ?_ (by assumption) ?_; rotate_left; (focus (intro wS hSw; skip; go_simp; try with_reducible rfl)); (try simp only [Act.put, List.setIfInBounds_toArray, List.set_cons_zero, List.set_cons_succ]))
        (refine take_at 3 (some 23) rfl rfl (by kernel_rfl) (by kernel_rfl) (by kernel_rfl) (fun _ _ _ h => h) (v := ?_) (by kernel_rfl) ?_ (by assumption) ?_; rotate_left; (focus (intro wS hSw; (have q0 := (hSw.cell (p := ⟨b0, o0 + k * 13, none⟩) lb id).trans x0); (have q1 := (hSw.cell (p := ⟨b0, o0 + k * 13 + 1, none⟩) lb id).trans x1); (have q2 := (hSw.cell (p := ⟨b0, o0 + k * 13 + 2, none⟩) lb id).trans x2); (have q3 := (hSw.cell (p := ⟨b0, o0 + k * 13 + 3, none⟩) lb id).trans x3); (have q4 := (hSw.cell (p := ⟨b0, o0 + k * 13 + 4, none⟩) lb id).trans x4); (have q5 := (hSw.cell (p := ⟨b0, o0 + k * 13 + 5, none⟩) lb id).trans x5); (have q6 := (hSw.cell (p := ⟨b0, o0 + k * 13 + 6, none⟩) lb id).trans x6); (have q7 := (hSw.cell (p := ⟨b0, o0 + k * 13 + 7, none⟩) lb id).trans x7); (have q8 := (hSw.cell (p := ⟨b0, o0 + k * 13 + 8, none⟩) lb id).trans x8); (have q9 := (hSw.cell (p := ⟨b0, o0 + k * 13 + 9, none⟩) lb id).trans x9); (have q10 := (hSw.cell (p := ⟨b0, o0 + k * 13 + 10, none⟩) lb id).trans x10); (have q11 := (hSw.cell (p := ⟨b0, o0 + k * 13 + 11, none⟩) lb id).trans x11); (have q12 := (hSw.cell (p := ⟨b0, o0 + k * 13 + 12, none⟩) lb id).trans x12); go_simp; try with_reducible rfl)); (try simp only [Act.put, List.setIfInBounds_toArray, List.set_cons_zero, List.set_cons_succ]))
        (refine take_at 4 (some 24) rfl rfl (by kernel_rfl) (by kernel_rfl) (by kernel_rfl) (fun _ _ _ h => h) (v := ?_) (by kernel_rfl) ?_ (by assumption) ?_; rotate_left; (focus (intro wS hSw; skip; go_simp; try with_reducible rfl)); (try simp only [Act.put, List.setIfInBounds_toArray, List.set_cons_zero, List.set_cons_succ]))
        (refine take_at 5 (some 25) rfl rfl (by kernel_rfl) (by kernel_rfl) (by kernel_rfl) (fun _ _ _ h => h) (v := ?_) (by kernel_rfl) ?_ (by assumption) ?_; rotate_left; (focus (intro wS hSw; (have q0 := (hSw.cell (p := ⟨gx, 0, none⟩) lgx id).trans g0); (have q1 := (hSw.cell (p := ⟨gx, 1, none⟩) lgx id).trans g1); (have q2 := (hSw.cell (p := ⟨gx, 2, none⟩) lgx id).trans g2); (have q3 := (hSw.cell (p := ⟨gx, 3, none⟩) lgx id).trans g3); (have q4 := (hSw.cell (p := ⟨gx, 4, none⟩) lgx id).trans g4); go_simp; try with_reducible rfl)); (try simp only [Act.put, List.setIfInBounds_toArray, List.set_cons_zero, List.set_cons_succ]))
        refine wpAnyH_ready (rs := [6]) (by kernel_rfl) (by simp) ?_
        refine AllReadyH.cons rfl (fun K hK => ?_) AllReadyH.nil
        go_simp
        go_at_call 32
        refine (show Calls _ _ _ _ _ from KO.out _).mono ?_
        rintro e y2 ⟨rfl, hp⟩
        have hn := Fp.trans hHeld hp (fun _ _ h => h.elim)
        replace B_gx := hid_blk B_gx hp
        refine k_now hK hn ?_
        clear hK K hp hHeld
        have hHeld := hn
        clear hn
        try simp only [Act.put, List.setIfInBounds_toArray, List.set_cons_zero, List.set_cons_succ]
        (refine take_at 7 (some 19) rfl rfl (by kernel_rfl) (by kernel_rfl) (by kernel_rfl) (fun _ _ _ h => h) (v := ?_) (by kernel_rfl) ?_ (by assumption) ?_; rotate_left; (focus (intro wS hSw; skip; go_simp; try with_reducible rfl)); (try simp only [Act.put, List.setIfInBounds_toArray, List.set_cons_zero, List.set_cons_succ]))
        (refine take_at 8 (some 27) rfl rfl (by kernel_rfl) (by kernel_rfl) (by kernel_rfl) (fun _ _ _ h => h) (v := ?_) (by kernel_rfl) ?_ (by assumption) ?_; rotate_left; (focus (intro wS hSw; skip; go_simp; try with_reducible rfl)); (try simp only [Act.put, List.setIfInBounds_toArray, List.set_cons_zero, List.set_cons_succ]))
        (refine take_at 9 (some 28) rfl rfl (by kernel_rfl) (by kernel_rfl) (by kernel_rfl) (fun _ _ _ h => h) (v := ?_) (by kernel_rfl) ?_ (by assumption) ?_; rotate_left; (focus (intro wS hSw; skip; go_simp; try with_reducible rfl)); (try simp only [Act.put, List.setIfInBounds_toArray, List.set_cons_zero, List.set_cons_succ]))
        (refine take_at 10 (some 9) rfl rfl (by kernel_rfl) (by kernel_rfl) (by kernel_rfl) (fun _ _ _ h => h) (v := ?_) (by kernel_rfl) ?_ (by assumption) ?_; rotate_left; (focus (intro wS hSw; skip; go_simp; try with_reducible rfl)); (try simp only [Act.put, List.setIfInBounds_toArray, List.set_cons_zero, List.set_cons_succ]))
        (refine take_at 11 (some 10) rfl rfl (by kernel_rfl) (by kernel_rfl) (by kernel_rfl) (fun _ _ _ h => h) (v := ?_) (by kernel_rfl) ?_ (by assumption) ?_; rotate_left; (focus (intro wS hSw; skip; go_simp; try with_reducible rfl)); (try simp only [Act.put, List.setIfInBounds_toArray, List.set_cons_zero, List.set_cons_succ]))
        refine wpAnyH_done (by kernel_rfl) ?_ _
        have hx9 := hHeld
        replace x0 := (hx9.cell (p := ⟨b0, o0 + k * 13, none⟩) lb id).trans x0
        replace x1 := (hx9.cell (p := ⟨b0, o0 + k * 13 + 1, none⟩) lb id).trans x1
        replace x2 := (hx9.cell (p := ⟨b0, o0 + k * 13 + 2, none⟩) lb id).trans x2
        replace x3 := (hx9.cell (p := ⟨b0, o0 + k * 13 + 3, none⟩) lb id).trans x3
        replace x4 := (hx9.cell (p := ⟨b0, o0 + k * 13 + 4, none⟩) lb id).trans x4
        replace x5 := (hx9.cell (p := ⟨b0, o0 + k * 13 + 5, none⟩) lb id).trans x5
        replace x6 := (hx9.cell (p := ⟨b0, o0 + k * 13 + 6, none⟩) lb id).trans x6
        replace x7 := (hx9.cell (p := ⟨b0, o0 + k * 13 + 7, none⟩) lb id).trans x7
        replace x8 := (hx9.cell (p := ⟨b0, o0 + k * 13 + 8, none⟩) lb id).trans x8
        replace x9 := (hx9.cell (p := ⟨b0, o0 + k * 13 + 9, none⟩) lb id).trans x9
        replace x10 := (hx9.cell (p := ⟨b0, o0 + k * 13 + 10, none⟩) lb id).trans x10
        replace x11 := (hx9.cell (p := ⟨b0, o0 + k * 13 + 11, none⟩) lb id).trans x11
        replace x12 := (hx9.cell (p := ⟨b0, o0 + k * 13 + 12, none⟩) lb id).trans x12
        replace lb := Nat.lt_of_lt_of_le lb (Fp.size hx9)
        clear hx9 lgx g0 g1 g2 g3 g4
        have hGe := hid_ge HN
        replace HN := hid_now HN hHeld
        clear hHeld hGe
        have lgx := hid_lt B_gx
        have g5 := cell_at B_gx 5 rfl
        have g6 := cell_at B_gx 6 rfl
        have g7 := cell_at B_gx 7 rfl
        have g8 := cell_at B_gx 8 rfl
        have g9 := cell_at B_gx 9 rfl
        go_upto_region 6 with fail
        refine wp_region_held_drew (S := fun wx => NoW y2 wx) (by kernel_rfl) (Fp.drew (Fp.refl _ _)) (fun hHeld0 => ?_)
        refine any_eq hHeld0 (fun y3 hW hHeld => ?_)
        clear hHeld0
        replace B_gx := hid_blk B_gx (noW_drew hW)
        clear hW
        (refine take_at 0 (some 30) rfl rfl (by kernel_rfl) (by kernel_rfl) (by kernel_rfl) (fun _ _ _ h => h) (v := ?_) (by kernel_rfl) ?_ (by assumption) ?_; rotate_left; (focus (intro wS hSw; skip; go_simp; try with_reducible rfl)); (try simp only [Act.put, List.setIfInBounds_toArray, List.set_cons_zero, List.set_cons_succ]))
        (refine take_at 1 (some 31) rfl rfl (by kernel_rfl) (by kernel_rfl) (by kernel_rfl) (fun _ _ _ h => h) (v := ?_) (by kernel_rfl) ?_ (by assumption) ?_; rotate_left; (focus (intro wS hSw; skip; go_simp; try with_reducible rfl)); (try simp only [Act.put, List.setIfInBounds_toArray, List.set_cons_zero, List.set_cons_succ]))
        (refine take_at 2 (some 32) rfl rfl (by kernel_rfl) (by kernel_rfl) (by kernel_rfl) (fun _ _ _ h => h) (v := ?_) (by kernel_rfl) ?_ (by assumption) ?_; rotate_left; (focus (intro wS hSw; skip; go_simp; try with_reducible rfl)); (try simp only [Act.put, List.setIfInBounds_toArray, List.set_cons_zero, List.set_cons_succ]))
        (refine take_at 3 (some 33) rfl rfl (by kernel_rfl) (by kernel_rfl) (by kernel_rfl) (fun _ _ _ h => h) (v := ?_) (by kernel_rfl) ?_ (by assumption) ?_; rotate_left; (focus (intro wS hSw; (have q0 := (hSw.cell (p := ⟨b0, o0 + k * 13, none⟩) lb id).trans x0); (have q1 := (hSw.cell (p := ⟨b0, o0 + k * 13 + 1, none⟩) lb id).trans x1); (have q2 := (hSw.cell (p := ⟨b0, o0 + k * 13 + 2, none⟩) lb id).trans x2); (have q3 := (hSw.cell (p := ⟨b0, o0 + k * 13 + 3, none⟩) lb id).trans x3); (have q4 := (hSw.cell (p := ⟨b0, o0 + k * 13 + 4, none⟩) lb id).trans x4); (have q5 := (hSw.cell (p := ⟨b0, o0 + k * 13 + 5, none⟩) lb id).trans x5); (have q6 := (hSw.cell (p := ⟨b0, o0 + k * 13 + 6, none⟩) lb id).trans x6); (have q7 := (hSw.cell (p := ⟨b0, o0 + k * 13 + 7, none⟩) lb id).trans x7); (have q8 := (hSw.cell (p := ⟨b0, o0 + k * 13 + 8, none⟩) lb id).trans x8); (have q9 := (hSw.cell (p := ⟨b0, o0 + k * 13 + 9, none⟩) lb id).trans x9); (have q10 := (hSw.cell (p := ⟨b0, o0 + k * 13 + 10, none⟩) lb id).trans x10); (have q11 := (hSw.cell (p := ⟨b0, o0 + k * 13 + 11, none⟩) lb id).trans x11); (have q12 := (hSw.cell (p := ⟨b0, o0 + k * 13 + 12, none⟩) lb id).trans x12); go_simp; try with_reducible rfl)); (try simp only [Act.put, List.setIfInBounds_toArray, List.set_cons_zero, List.set_cons_succ]))
        (refine take_at 4 (some 34) rfl rfl (by kernel_rfl) (by kernel_rfl) (by kernel_rfl) (fun _ _ _ h => h) (v := ?_) (by kernel_rfl) ?_ (by assumption) ?_; rotate_left; (focus (intro wS hSw; skip; go_simp; try with_reducible rfl)); (try simp only [Act.put, List.setIfInBounds_toArray, List.set_cons_zero, List.set_cons_succ]))
        (refine take_at 5 (some 35) rfl rfl (by kernel_rfl) (by kernel_rfl) (by kernel_rfl) (fun _ _ _ h => h) (v := ?_) (by kernel_rfl) ?_ (by assumption) ?_; rotate_left; (focus (intro wS hSw; (have q5 := (hSw.cell (p := ⟨gx, 5, none⟩) lgx id).trans g5); (have q6 := (hSw.cell (p := ⟨gx, 6, none⟩) lgx id).trans g6); (have q7 := (hSw.cell (p := ⟨gx, 7, none⟩) lgx id).trans g7); (have q8 := (hSw.cell (p := ⟨gx, 8, none⟩) lgx id).trans g8); (have q9 := (hSw.cell (p := ⟨gx, 9, none⟩) lgx id).trans g9); go_simp; try with_reducible rfl)); (try simp only [Act.put, List.setIfInBounds_toArray, List.set_cons_zero, List.set_cons_succ]))
        refine wpAnyH_ready (rs := [6]) (by kernel_rfl) (by simp) ?_
        refine AllReadyH.cons rfl (fun K hK => ?_) AllReadyH.nil
        go_simp
        go_at_call 32
        refine (show Calls _ _ _ _ _ from KR.out _).mono ?_
        rintro e y4 ⟨rfl, hp⟩
        have hn := Fp.trans hHeld hp (fun _ _ h => h.elim)
        replace B_gx := hid_blk B_gx hp
        refine k_now hK hn ?_
        clear hK K hp hHeld
        have hHeld := hn
        clear hn
        try simp only [Act.put, List.setIfInBounds_toArray, List.set_cons_zero, List.set_cons_succ]
        (refine take_at 7 (some 29) rfl rfl (by kernel_rfl) (by kernel_rfl) (by kernel_rfl) (fun _ _ _ h => h) (v := ?_) (by kernel_rfl) ?_ (by assumption) ?_; rotate_left; (focus (intro wS hSw; skip; go_simp; try with_reducible rfl)); (try simp only [Act.put, List.setIfInBounds_toArray, List.set_cons_zero, List.set_cons_succ]))
        (refine take_at 8 (some 37) rfl rfl (by kernel_rfl) (by kernel_rfl) (by kernel_rfl) (fun _ _ _ h => h) (v := ?_) (by kernel_rfl) ?_ (by assumption) ?_; rotate_left; (focus (intro wS hSw; skip; go_simp; try with_reducible rfl)); (try simp only [Act.put, List.setIfInBounds_toArray, List.set_cons_zero, List.set_cons_succ]))
        (refine take_at 9 (some 38) rfl rfl (by kernel_rfl) (by kernel_rfl) (by kernel_rfl) (fun _ _ _ h => h) (v := ?_) (by kernel_rfl) ?_ (by assumption) ?_; rotate_left; (focus (intro wS hSw; skip; go_simp; try with_reducible rfl)); (try simp only [Act.put, List.setIfInBounds_toArray, List.set_cons_zero, List.set_cons_succ]))
        (refine take_at 10 (some 11) rfl rfl (by kernel_rfl) (by kernel_rfl) (by kernel_rfl) (fun _ _ _ h => h) (v := ?_) (by kernel_rfl) ?_ (by assumption) ?_; rotate_left; (focus (intro wS hSw; skip; go_simp; try with_reducible rfl)); (try simp only [Act.put, List.setIfInBounds_toArray, List.set_cons_zero, List.set_cons_succ]))
        (refine take_at 11 (some 12) rfl rfl (by kernel_rfl) (by kernel_rfl) (by kernel_rfl) (fun _ _ _ h => h) (v := ?_) (by kernel_rfl) ?_ (by assumption) ?_; rotate_left; (focus (intro wS hSw; skip; go_simp; try with_reducible rfl)); (try simp only [Act.put, List.setIfInBounds_toArray, List.set_cons_zero, List.set_cons_succ]))
        refine wpAnyH_done (by kernel_rfl) ?_ _
        have hx9 := hHeld
        replace x0 := (hx9.cell (p := ⟨b0, o0 + k * 13, none⟩) lb id).trans x0
        replace x1 := (hx9.cell (p := ⟨b0, o0 + k * 13 + 1, none⟩) lb id).trans x1
        replace x2 := (hx9.cell (p := ⟨b0, o0 + k * 13 + 2, none⟩) lb id).trans x2
        replace x3 := (hx9.cell (p := ⟨b0, o0 + k * 13 + 3, none⟩) lb id).trans x3
        replace x4 := (hx9.cell (p := ⟨b0, o0 + k * 13 + 4, none⟩) lb id).trans x4
        replace x5 := (hx9.cell (p := ⟨b0, o0 + k * 13 + 5, none⟩) lb id).trans x5
        replace x6 := (hx9.cell (p := ⟨b0, o0 + k * 13 + 6, none⟩) lb id).trans x6
        replace x7 := (hx9.cell (p := ⟨b0, o0 + k * 13 + 7, none⟩) lb id).trans x7
        replace x8 := (hx9.cell (p := ⟨b0, o0 + k * 13 + 8, none⟩) lb id).trans x8
        replace x9 := (hx9.cell (p := ⟨b0, o0 + k * 13 + 9, none⟩) lb id).trans x9
        replace x10 := (hx9.cell (p := ⟨b0, o0 + k * 13 + 10, none⟩) lb id).trans x10
        replace x11 := (hx9.cell (p := ⟨b0, o0 + k * 13 + 11, none⟩) lb id).trans x11
        replace x12 := (hx9.cell (p := ⟨b0, o0 + k * 13 + 12, none⟩) lb id).trans x12
        replace lb := Nat.lt_of_lt_of_le lb (Fp.size hx9)
        clear hx9 lgx g5 g6 g7 g8 g9
        have hGe := hid_ge HN
        replace HN := hid_now HN hHeld
        clear hHeld hGe
        go_wp2_with fail
        refine (show Calls _ _ _ _ _ from KL.out _).mono ?_
        rintro e y5 ⟨rfl, hp⟩
        replace HN := hid_now HN hp
        replace B_gx := hid_blk B_gx hp
        replace x0 := (hp.cell (p := ⟨b0, o0 + k * 13, none⟩) lb id).trans x0
        replace x1 := (hp.cell (p := ⟨b0, o0 + k * 13 + 1, none⟩) lb id).trans x1
        replace x2 := (hp.cell (p := ⟨b0, o0 + k * 13 + 2, none⟩) lb id).trans x2
        replace x3 := (hp.cell (p := ⟨b0, o0 + k * 13 + 3, none⟩) lb id).trans x3
        replace x4 := (hp.cell (p := ⟨b0, o0 + k * 13 + 4, none⟩) lb id).trans x4
        replace x5 := (hp.cell (p := ⟨b0, o0 + k * 13 + 5, none⟩) lb id).trans x5
        replace x6 := (hp.cell (p := ⟨b0, o0 + k * 13 + 6, none⟩) lb id).trans x6
        replace x7 := (hp.cell (p := ⟨b0, o0 + k * 13 + 7, none⟩) lb id).trans x7
        replace x8 := (hp.cell (p := ⟨b0, o0 + k * 13 + 8, none⟩) lb id).trans x8
        replace x9 := (hp.cell (p := ⟨b0, o0 + k * 13 + 9, none⟩) lb id).trans x9
        replace x10 := (hp.cell (p := ⟨b0, o0 + k * 13 + 10, none⟩) lb id).trans x10
        replace x11 := (hp.cell (p := ⟨b0, o0 + k * 13 + 11, none⟩) lb id).trans x11
        replace x12 := (hp.cell (p := ⟨b0, o0 + k * 13 + 12, none⟩) lb id).trans x12
        replace lb := Nat.lt_of_lt_of_le lb (Fp.size hp)
        clear hp
        go_wp2_with fail
        clear x0 x1 x2 x3 x4 x5 x6 x7 x8 x9 x10 x11 x12
        refine (show Calls _ _ _ _ _ from KL.out _).mono ?_
        rintro e y6 ⟨rfl, hp⟩
        replace HN := hid_now HN hp
        replace B_gx := hid_blk B_gx hp
        clear hp
        go_wp2_with fail
        go_roundg (n - k)
        case measure => have := Hg.out; omega
        case rel => exact ⟨k + 1, how, by omega, by omega, by go_num, rfl, HT2.out, B_gx.out, HN.out⟩
      · rcases hmo : matB (E k) r a p b q with _ | _
        · rcases hmr : matB (E k) r2 a2 p2 b2 q2 with _ | _
          · have KL := Lib.hid (fun W => rlive_ok (E k).r (E k).a (E k).p (E k).b (E k).q (E k).r2 (E k).a2 (E k).p2 (E k).b2 (E k).q2 (E k).st (E k).dl (.slice (E k).ad (E k).n (E k).c) now W)
            rw [hl] at KL
            have KO := Lib.hid (fun W => rmatch_ok (E k).r (E k).a (E k).p (E k).b (E k).q (E k).r2 (E k).a2 (E k).p2 (E k).b2 (E k).q2 r a p b q (E k).st (E k).dl (.slice (E k).ad (E k).n (E k).c) W)
            generalize hq1 : (decide (r = (E k).r ∧ a = (E k).a ∧ p = (E k).p ∧ b = (E k).b ∧ q = (E k).q) || decide (r = (E k).r2 ∧ a = (E k).a2 ∧ p = (E k).p2 ∧ b = (E k).b2 ∧ q = (E k).q2)) = m1 at KO
            generalize (!decide (r = (E k).r ∧ a = (E k).a ∧ p = (E k).p ∧ b = (E k).b ∧ q = (E k).q) && decide (r = (E k).r2 ∧ a = (E k).a2 ∧ p = (E k).p2 ∧ b = (E k).b2 ∧ q = (E k).q2)) = z1 at KO
            have KR := Lib.hid (fun W => rmatch_ok (E k).r (E k).a (E k).p (E k).b (E k).q (E k).r2 (E k).a2 (E k).p2 (E k).b2 (E k).q2 r2 a2 p2 b2 q2 (E k).st (E k).dl (.slice (E k).ad (E k).n (E k).c) W)
            generalize hq2 : (decide (r2 = (E k).r ∧ a2 = (E k).a ∧ p2 = (E k).p ∧ b2 = (E k).b ∧ q2 = (E k).q) || decide (r2 = (E k).r2 ∧ a2 = (E k).a2 ∧ p2 = (E k).p2 ∧ b2 = (E k).b2 ∧ q2 = (E k).q2)) = m2 at KR
            generalize (!decide (r2 = (E k).r ∧ a2 = (E k).a ∧ p2 = (E k).p ∧ b2 = (E k).b ∧ q2 = (E k).q) && decide (r2 = (E k).r2 ∧ a2 = (E k).a2 ∧ p2 = (E k).p2 ∧ b2 = (E k).b2 ∧ q2 = (E k).q2)) = z2 at KR
            obtain rfl : m1 = false := hq1.symm.trans hmo
            obtain rfl : m2 = false := hq2.symm.trans hmr
            have HT2 : Hid (tot = clR (clE E now r a p b q) (clE E now r2 a2 p2 b2 q2) (n - (k + 1)) (k + 1) how) := Lib.hid (HT.out.trans (by rw [clR_no hlt (by unfold clE; rw [hl, hmo]; rfl)]; rw [show clE E now r2 a2 p2 b2 q2 k = false by unfold clE; rw [hl, hmr]; rfl]; rfl))
            clear HT hq1 hq2 hl hmo hmr
            have lgx := hid_lt B_gx
            have g0 := cell_at B_gx 0 rfl
            have g1 := cell_at B_gx 1 rfl
            have g2 := cell_at B_gx 2 rfl
            have g3 := cell_at B_gx 3 rfl
            have g4 := cell_at B_gx 4 rfl
            go_upto_region 5 with fail
            refine wp_region_held_drew (S := fun wx => NoW wr wx) (by kernel_rfl) (Fp.drew (Fp.refl _ _)) (fun hHeld0 => ?_)
            refine any_eq hHeld0 (fun y1 hW hHeld => ?_)
            clear hHeld0
            replace B_gx := hid_blk B_gx (noW_drew hW)
            clear hW
            (refine take_at 0 (some 20) rfl rfl (by kernel_rfl) (by kernel_rfl) (by kernel_rfl) (fun _ _ _ h => h) (v := ?_) (by kernel_rfl) ?_ (by assumption) ?_; rotate_left; (focus (intro wS hSw; skip; go_simp; try with_reducible rfl)); (try simp only [Act.put, List.setIfInBounds_toArray, List.set_cons_zero, List.set_cons_succ]))
            (refine take_at 1 (some 21) rfl rfl (by kernel_rfl) (by kernel_rfl) (by kernel_rfl) (fun _ _ _ h => h) (v := ?_) (by kernel_rfl) ?_ (by assumption) ?_; rotate_left; (focus (intro wS hSw; skip; go_simp; try with_reducible rfl)); (try simp only [Act.put, List.setIfInBounds_toArray, List.set_cons_zero, List.set_cons_succ]))
            (refine take_at 2 (some 22) rfl rfl (by kernel_rfl) (by kernel_rfl) (by kernel_rfl) (fun _ _ _ h => h) (v := ?_) (by kernel_rfl) ?_ (by assumption) ?_; rotate_left; (focus (intro wS hSw; skip; go_simp; try with_reducible rfl)); (try simp only [Act.put, List.setIfInBounds_toArray, List.set_cons_zero, List.set_cons_succ]))
            (refine take_at 3 (some 23) rfl rfl (by kernel_rfl) (by kernel_rfl) (by kernel_rfl) (fun _ _ _ h => h) (v := ?_) (by kernel_rfl) ?_ (by assumption) ?_; rotate_left; (focus (intro wS hSw; (have q0 := (hSw.cell (p := ⟨b0, o0 + k * 13, none⟩) lb id).trans x0); (have q1 := (hSw.cell (p := ⟨b0, o0 + k * 13 + 1, none⟩) lb id).trans x1); (have q2 := (hSw.cell (p := ⟨b0, o0 + k * 13 + 2, none⟩) lb id).trans x2); (have q3 := (hSw.cell (p := ⟨b0, o0 + k * 13 + 3, none⟩) lb id).trans x3); (have q4 := (hSw.cell (p := ⟨b0, o0 + k * 13 + 4, none⟩) lb id).trans x4); (have q5 := (hSw.cell (p := ⟨b0, o0 + k * 13 + 5, none⟩) lb id).trans x5); (have q6 := (hSw.cell (p := ⟨b0, o0 + k * 13 + 6, none⟩) lb id).trans x6); (have q7 := (hSw.cell (p := ⟨b0, o0 + k * 13 + 7, none⟩) lb id).trans x7); (have q8 := (hSw.cell (p := ⟨b0, o0 + k * 13 + 8, none⟩) lb id).trans x8); (have q9 := (hSw.cell (p := ⟨b0, o0 + k * 13 + 9, none⟩) lb id).trans x9); (have q10 := (hSw.cell (p := ⟨b0, o0 + k * 13 + 10, none⟩) lb id).trans x10); (have q11 := (hSw.cell (p := ⟨b0, o0 + k * 13 + 11, none⟩) lb id).trans x11); (have q12 := (hSw.cell (p := ⟨b0, o0 + k * 13 + 12, none⟩) lb id).trans x12); go_simp; try with_reducible rfl)); (try simp only [Act.put, List.setIfInBounds_toArray, List.set_cons_zero, List.set_cons_succ]))
            (refine take_at 4 (some 24) rfl rfl (by kernel_rfl) (by kernel_rfl) (by kernel_rfl) (fun _ _ _ h => h) (v := ?_) (by kernel_rfl) ?_ (by assumption) ?_; rotate_left; (focus (intro wS hSw; skip; go_simp; try with_reducible rfl)); (try simp only [Act.put, List.setIfInBounds_toArray, List.set_cons_zero, List.set_cons_succ]))
            (refine take_at 5 (some 25) rfl rfl (by kernel_rfl) (by kernel_rfl) (by kernel_rfl) (fun _ _ _ h => h) (v := ?_) (by kernel_rfl) ?_ (by assumption) ?_; rotate_left; (focus (intro wS hSw; (have q0 := (hSw.cell (p := ⟨gx, 0, none⟩) lgx id).trans g0); (have q1 := (hSw.cell (p := ⟨gx, 1, none⟩) lgx id).trans g1); (have q2 := (hSw.cell (p := ⟨gx, 2, none⟩) lgx id).trans g2); (have q3 := (hSw.cell (p := ⟨gx, 3, none⟩) lgx id).trans g3); (have q4 := (hSw.cell (p := ⟨gx, 4, none⟩) lgx id).trans g4); go_simp; try with_reducible rfl)); (try simp only [Act.put, List.setIfInBounds_toArray, List.set_cons_zero, List.set_cons_succ]))
            refine wpAnyH_ready (rs := [6]) (by kernel_rfl) (by simp) ?_
            refine AllReadyH.cons rfl (fun K hK => ?_) AllReadyH.nil
            go_simp
            go_at_call 32
            refine (show Calls _ _ _ _ _ from KO.out _).mono ?_
            rintro e y2 ⟨rfl, hp⟩
            have hn := Fp.trans hHeld hp (fun _ _ h => h.elim)
            replace B_gx := hid_blk B_gx hp
            refine k_now hK hn ?_
            clear hK K hp hHeld
            have hHeld := hn
            clear hn
            try simp only [Act.put, List.setIfInBounds_toArray, List.set_cons_zero, List.set_cons_succ]
            (refine take_at 7 (some 19) rfl rfl (by kernel_rfl) (by kernel_rfl) (by kernel_rfl) (fun _ _ _ h => h) (v := ?_) (by kernel_rfl) ?_ (by assumption) ?_; rotate_left; (focus (intro wS hSw; skip; go_simp; try with_reducible rfl)); (try simp only [Act.put, List.setIfInBounds_toArray, List.set_cons_zero, List.set_cons_succ]))
            (refine take_at 8 (some 27) rfl rfl (by kernel_rfl) (by kernel_rfl) (by kernel_rfl) (fun _ _ _ h => h) (v := ?_) (by kernel_rfl) ?_ (by assumption) ?_; rotate_left; (focus (intro wS hSw; skip; go_simp; try with_reducible rfl)); (try simp only [Act.put, List.setIfInBounds_toArray, List.set_cons_zero, List.set_cons_succ]))
            (refine take_at 9 (some 28) rfl rfl (by kernel_rfl) (by kernel_rfl) (by kernel_rfl) (fun _ _ _ h => h) (v := ?_) (by kernel_rfl) ?_ (by assumption) ?_; rotate_left; (focus (intro wS hSw; skip; go_simp; try with_reducible rfl)); (try simp only [Act.put, List.setIfInBounds_toArray, List.set_cons_zero, List.set_cons_succ]))
            (refine take_at 10 (some 9) rfl rfl (by kernel_rfl) (by kernel_rfl) (by kernel_rfl) (fun _ _ _ h => h) (v := ?_) (by kernel_rfl) ?_ (by assumption) ?_; rotate_left; (focus (intro wS hSw; skip; go_simp; try with_reducible rfl)); (try simp only [Act.put, List.setIfInBounds_toArray, List.set_cons_zero, List.set_cons_succ]))
            (refine take_at 11 (some 10) rfl rfl (by kernel_rfl) (by kernel_rfl) (by kernel_rfl) (fun _ _ _ h => h) (v := ?_) (by kernel_rfl) ?_ (by assumption) ?_; rotate_left; (focus (intro wS hSw; skip; go_simp; try with_reducible rfl)); (try simp only [Act.put, List.setIfInBounds_toArray, List.set_cons_zero, List.set_cons_succ]))
            refine wpAnyH_done (by kernel_rfl) ?_ _
            have hx9 := hHeld
            replace x0 := (hx9.cell (p := ⟨b0, o0 + k * 13, none⟩) lb id).trans x0
            replace x1 := (hx9.cell (p := ⟨b0, o0 + k * 13 + 1, none⟩) lb id).trans x1
            replace x2 := (hx9.cell (p := ⟨b0, o0 + k * 13 + 2, none⟩) lb id).trans x2
            replace x3 := (hx9.cell (p := ⟨b0, o0 + k * 13 + 3, none⟩) lb id).trans x3
            replace x4 := (hx9.cell (p := ⟨b0, o0 + k * 13 + 4, none⟩) lb id).trans x4
            replace x5 := (hx9.cell (p := ⟨b0, o0 + k * 13 + 5, none⟩) lb id).trans x5
            replace x6 := (hx9.cell (p := ⟨b0, o0 + k * 13 + 6, none⟩) lb id).trans x6
            replace x7 := (hx9.cell (p := ⟨b0, o0 + k * 13 + 7, none⟩) lb id).trans x7
            replace x8 := (hx9.cell (p := ⟨b0, o0 + k * 13 + 8, none⟩) lb id).trans x8
            replace x9 := (hx9.cell (p := ⟨b0, o0 + k * 13 + 9, none⟩) lb id).trans x9
            replace x10 := (hx9.cell (p := ⟨b0, o0 + k * 13 + 10, none⟩) lb id).trans x10
            replace x11 := (hx9.cell (p := ⟨b0, o0 + k * 13 + 11, none⟩) lb id).trans x11
            replace x12 := (hx9.cell (p := ⟨b0, o0 + k * 13 + 12, none⟩) lb id).trans x12
            replace lb := Nat.lt_of_lt_of_le lb (Fp.size hx9)
            clear hx9 lgx g0 g1 g2 g3 g4
            have hGe := hid_ge HN
            replace HN := hid_now HN hHeld
            clear hHeld hGe
            have lgx := hid_lt B_gx
            have g5 := cell_at B_gx 5 rfl
            have g6 := cell_at B_gx 6 rfl
            have g7 := cell_at B_gx 7 rfl
            have g8 := cell_at B_gx 8 rfl
            have g9 := cell_at B_gx 9 rfl
            go_upto_region 6 with fail
            refine wp_region_held_drew (S := fun wx => NoW y2 wx) (by kernel_rfl) (Fp.drew (Fp.refl _ _)) (fun hHeld0 => ?_)
            refine any_eq hHeld0 (fun y3 hW hHeld => ?_)
            clear hHeld0
            replace B_gx := hid_blk B_gx (noW_drew hW)
            clear hW
            (refine take_at 0 (some 30) rfl rfl (by kernel_rfl) (by kernel_rfl) (by kernel_rfl) (fun _ _ _ h => h) (v := ?_) (by kernel_rfl) ?_ (by assumption) ?_; rotate_left; (focus (intro wS hSw; skip; go_simp; try with_reducible rfl)); (try simp only [Act.put, List.setIfInBounds_toArray, List.set_cons_zero, List.set_cons_succ]))
            (refine take_at 1 (some 31) rfl rfl (by kernel_rfl) (by kernel_rfl) (by kernel_rfl) (fun _ _ _ h => h) (v := ?_) (by kernel_rfl) ?_ (by assumption) ?_; rotate_left; (focus (intro wS hSw; skip; go_simp; try with_reducible rfl)); (try simp only [Act.put, List.setIfInBounds_toArray, List.set_cons_zero, List.set_cons_succ]))
            (refine take_at 2 (some 32) rfl rfl (by kernel_rfl) (by kernel_rfl) (by kernel_rfl) (fun _ _ _ h => h) (v := ?_) (by kernel_rfl) ?_ (by assumption) ?_; rotate_left; (focus (intro wS hSw; skip; go_simp; try with_reducible rfl)); (try simp only [Act.put, List.setIfInBounds_toArray, List.set_cons_zero, List.set_cons_succ]))
            (refine take_at 3 (some 33) rfl rfl (by kernel_rfl) (by kernel_rfl) (by kernel_rfl) (fun _ _ _ h => h) (v := ?_) (by kernel_rfl) ?_ (by assumption) ?_; rotate_left; (focus (intro wS hSw; (have q0 := (hSw.cell (p := ⟨b0, o0 + k * 13, none⟩) lb id).trans x0); (have q1 := (hSw.cell (p := ⟨b0, o0 + k * 13 + 1, none⟩) lb id).trans x1); (have q2 := (hSw.cell (p := ⟨b0, o0 + k * 13 + 2, none⟩) lb id).trans x2); (have q3 := (hSw.cell (p := ⟨b0, o0 + k * 13 + 3, none⟩) lb id).trans x3); (have q4 := (hSw.cell (p := ⟨b0, o0 + k * 13 + 4, none⟩) lb id).trans x4); (have q5 := (hSw.cell (p := ⟨b0, o0 + k * 13 + 5, none⟩) lb id).trans x5); (have q6 := (hSw.cell (p := ⟨b0, o0 + k * 13 + 6, none⟩) lb id).trans x6); (have q7 := (hSw.cell (p := ⟨b0, o0 + k * 13 + 7, none⟩) lb id).trans x7); (have q8 := (hSw.cell (p := ⟨b0, o0 + k * 13 + 8, none⟩) lb id).trans x8); (have q9 := (hSw.cell (p := ⟨b0, o0 + k * 13 + 9, none⟩) lb id).trans x9); (have q10 := (hSw.cell (p := ⟨b0, o0 + k * 13 + 10, none⟩) lb id).trans x10); (have q11 := (hSw.cell (p := ⟨b0, o0 + k * 13 + 11, none⟩) lb id).trans x11); (have q12 := (hSw.cell (p := ⟨b0, o0 + k * 13 + 12, none⟩) lb id).trans x12); go_simp; try with_reducible rfl)); (try simp only [Act.put, List.setIfInBounds_toArray, List.set_cons_zero, List.set_cons_succ]))
            (refine take_at 4 (some 34) rfl rfl (by kernel_rfl) (by kernel_rfl) (by kernel_rfl) (fun _ _ _ h => h) (v := ?_) (by kernel_rfl) ?_ (by assumption) ?_; rotate_left; (focus (intro wS hSw; skip; go_simp; try with_reducible rfl)); (try simp only [Act.put, List.setIfInBounds_toArray, List.set_cons_zero, List.set_cons_succ]))
            (refine take_at 5 (some 35) rfl rfl (by kernel_rfl) (by kernel_rfl) (by kernel_rfl) (fun _ _ _ h => h) (v := ?_) (by kernel_rfl) ?_ (by assumption) ?_; rotate_left; (focus (intro wS hSw; (have q5 := (hSw.cell (p := ⟨gx, 5, none⟩) lgx id).trans g5); (have q6 := (hSw.cell (p := ⟨gx, 6, none⟩) lgx id).trans g6); (have q7 := (hSw.cell (p := ⟨gx, 7, none⟩) lgx id).trans g7); (have q8 := (hSw.cell (p := ⟨gx, 8, none⟩) lgx id).trans g8); (have q9 := (hSw.cell (p := ⟨gx, 9, none⟩) lgx id).trans g9); go_simp; try with_reducible rfl)); (try simp only [Act.put, List.setIfInBounds_toArray, List.set_cons_zero, List.set_cons_succ]))
            refine wpAnyH_ready (rs := [6]) (by kernel_rfl) (by simp) ?_
            refine AllReadyH.cons rfl (fun K hK => ?_) AllReadyH.nil
            go_simp
            go_at_call 32
            refine (show Calls _ _ _ _ _ from KR.out _).mono ?_
            rintro e y4 ⟨rfl, hp⟩
            have hn := Fp.trans hHeld hp (fun _ _ h => h.elim)
            replace B_gx := hid_blk B_gx hp
            refine k_now hK hn ?_
            clear hK K hp hHeld
            have hHeld := hn
            clear hn
            try simp only [Act.put, List.setIfInBounds_toArray, List.set_cons_zero, List.set_cons_succ]
            (refine take_at 7 (some 29) rfl rfl (by kernel_rfl) (by kernel_rfl) (by kernel_rfl) (fun _ _ _ h => h) (v := ?_) (by kernel_rfl) ?_ (by assumption) ?_; rotate_left; (focus (intro wS hSw; skip; go_simp; try with_reducible rfl)); (try simp only [Act.put, List.setIfInBounds_toArray, List.set_cons_zero, List.set_cons_succ]))
            (refine take_at 8 (some 37) rfl rfl (by kernel_rfl) (by kernel_rfl) (by kernel_rfl) (fun _ _ _ h => h) (v := ?_) (by kernel_rfl) ?_ (by assumption) ?_; rotate_left; (focus (intro wS hSw; skip; go_simp; try with_reducible rfl)); (try simp only [Act.put, List.setIfInBounds_toArray, List.set_cons_zero, List.set_cons_succ]))
            (refine take_at 9 (some 38) rfl rfl (by kernel_rfl) (by kernel_rfl) (by kernel_rfl) (fun _ _ _ h => h) (v := ?_) (by kernel_rfl) ?_ (by assumption) ?_; rotate_left; (focus (intro wS hSw; skip; go_simp; try with_reducible rfl)); (try simp only [Act.put, List.setIfInBounds_toArray, List.set_cons_zero, List.set_cons_succ]))
            (refine take_at 10 (some 11) rfl rfl (by kernel_rfl) (by kernel_rfl) (by kernel_rfl) (fun _ _ _ h => h) (v := ?_) (by kernel_rfl) ?_ (by assumption) ?_; rotate_left; (focus (intro wS hSw; skip; go_simp; try with_reducible rfl)); (try simp only [Act.put, List.setIfInBounds_toArray, List.set_cons_zero, List.set_cons_succ]))
            (refine take_at 11 (some 12) rfl rfl (by kernel_rfl) (by kernel_rfl) (by kernel_rfl) (fun _ _ _ h => h) (v := ?_) (by kernel_rfl) ?_ (by assumption) ?_; rotate_left; (focus (intro wS hSw; skip; go_simp; try with_reducible rfl)); (try simp only [Act.put, List.setIfInBounds_toArray, List.set_cons_zero, List.set_cons_succ]))
            refine wpAnyH_done (by kernel_rfl) ?_ _
            have hx9 := hHeld
            replace x0 := (hx9.cell (p := ⟨b0, o0 + k * 13, none⟩) lb id).trans x0
            replace x1 := (hx9.cell (p := ⟨b0, o0 + k * 13 + 1, none⟩) lb id).trans x1
            replace x2 := (hx9.cell (p := ⟨b0, o0 + k * 13 + 2, none⟩) lb id).trans x2
            replace x3 := (hx9.cell (p := ⟨b0, o0 + k * 13 + 3, none⟩) lb id).trans x3
            replace x4 := (hx9.cell (p := ⟨b0, o0 + k * 13 + 4, none⟩) lb id).trans x4
            replace x5 := (hx9.cell (p := ⟨b0, o0 + k * 13 + 5, none⟩) lb id).trans x5
            replace x6 := (hx9.cell (p := ⟨b0, o0 + k * 13 + 6, none⟩) lb id).trans x6
            replace x7 := (hx9.cell (p := ⟨b0, o0 + k * 13 + 7, none⟩) lb id).trans x7
            replace x8 := (hx9.cell (p := ⟨b0, o0 + k * 13 + 8, none⟩) lb id).trans x8
            replace x9 := (hx9.cell (p := ⟨b0, o0 + k * 13 + 9, none⟩) lb id).trans x9
            replace x10 := (hx9.cell (p := ⟨b0, o0 + k * 13 + 10, none⟩) lb id).trans x10
            replace x11 := (hx9.cell (p := ⟨b0, o0 + k * 13 + 11, none⟩) lb id).trans x11
            replace x12 := (hx9.cell (p := ⟨b0, o0 + k * 13 + 12, none⟩) lb id).trans x12
            replace lb := Nat.lt_of_lt_of_le lb (Fp.size hx9)
            clear hx9 lgx g5 g6 g7 g8 g9
            have hGe := hid_ge HN
            replace HN := hid_now HN hHeld
            clear hHeld hGe
            go_wp2_with fail
            refine (show Calls _ _ _ _ _ from KL.out _).mono ?_
            rintro e y5 ⟨rfl, hp⟩
            replace HN := hid_now HN hp
            replace B_gx := hid_blk B_gx hp
            replace x0 := (hp.cell (p := ⟨b0, o0 + k * 13, none⟩) lb id).trans x0
            replace x1 := (hp.cell (p := ⟨b0, o0 + k * 13 + 1, none⟩) lb id).trans x1
            replace x2 := (hp.cell (p := ⟨b0, o0 + k * 13 + 2, none⟩) lb id).trans x2
            replace x3 := (hp.cell (p := ⟨b0, o0 + k * 13 + 3, none⟩) lb id).trans x3
            replace x4 := (hp.cell (p := ⟨b0, o0 + k * 13 + 4, none⟩) lb id).trans x4
            replace x5 := (hp.cell (p := ⟨b0, o0 + k * 13 + 5, none⟩) lb id).trans x5
            replace x6 := (hp.cell (p := ⟨b0, o0 + k * 13 + 6, none⟩) lb id).trans x6
            replace x7 := (hp.cell (p := ⟨b0, o0 + k * 13 + 7, none⟩) lb id).trans x7
            replace x8 := (hp.cell (p := ⟨b0, o0 + k * 13 + 8, none⟩) lb id).trans x8
            replace x9 := (hp.cell (p := ⟨b0, o0 + k * 13 + 9, none⟩) lb id).trans x9
            replace x10 := (hp.cell (p := ⟨b0, o0 + k * 13 + 10, none⟩) lb id).trans x10
            replace x11 := (hp.cell (p := ⟨b0, o0 + k * 13 + 11, none⟩) lb id).trans x11
            replace x12 := (hp.cell (p := ⟨b0, o0 + k * 13 + 12, none⟩) lb id).trans x12
            replace lb := Nat.lt_of_lt_of_le lb (Fp.size hp)
            clear hp
            go_wp2_with fail
            clear x0 x1 x2 x3 x4 x5 x6 x7 x8 x9 x10 x11 x12
            refine (show Calls _ _ _ _ _ from KL.out _).mono ?_
            rintro e y6 ⟨rfl, hp⟩
            replace HN := hid_now HN hp
            replace B_gx := hid_blk B_gx hp
            clear hp
            go_wp2_with fail
            go_roundg (n - k)
            case measure => have := Hg.out; omega
            case rel => exact ⟨k + 1, how, by omega, by omega, by go_num, rfl, HT2.out, B_gx.out, HN.out⟩
          · have KL := Lib.hid (fun W => rlive_ok (E k).r (E k).a (E k).p (E k).b (E k).q (E k).r2 (E k).a2 (E k).p2 (E k).b2 (E k).q2 (E k).st (E k).dl (.slice (E k).ad (E k).n (E k).c) now W)
            rw [hl] at KL
            have KO := Lib.hid (fun W => rmatch_ok (E k).r (E k).a (E k).p (E k).b (E k).q (E k).r2 (E k).a2 (E k).p2 (E k).b2 (E k).q2 r a p b q (E k).st (E k).dl (.slice (E k).ad (E k).n (E k).c) W)
            generalize hq1 : (decide (r = (E k).r ∧ a = (E k).a ∧ p = (E k).p ∧ b = (E k).b ∧ q = (E k).q) || decide (r = (E k).r2 ∧ a = (E k).a2 ∧ p = (E k).p2 ∧ b = (E k).b2 ∧ q = (E k).q2)) = m1 at KO
            generalize (!decide (r = (E k).r ∧ a = (E k).a ∧ p = (E k).p ∧ b = (E k).b ∧ q = (E k).q) && decide (r = (E k).r2 ∧ a = (E k).a2 ∧ p = (E k).p2 ∧ b = (E k).b2 ∧ q = (E k).q2)) = z1 at KO
            have KR := Lib.hid (fun W => rmatch_ok (E k).r (E k).a (E k).p (E k).b (E k).q (E k).r2 (E k).a2 (E k).p2 (E k).b2 (E k).q2 r2 a2 p2 b2 q2 (E k).st (E k).dl (.slice (E k).ad (E k).n (E k).c) W)
            generalize hq2 : (decide (r2 = (E k).r ∧ a2 = (E k).a ∧ p2 = (E k).p ∧ b2 = (E k).b ∧ q2 = (E k).q) || decide (r2 = (E k).r2 ∧ a2 = (E k).a2 ∧ p2 = (E k).p2 ∧ b2 = (E k).b2 ∧ q2 = (E k).q2)) = m2 at KR
            generalize (!decide (r2 = (E k).r ∧ a2 = (E k).a ∧ p2 = (E k).p ∧ b2 = (E k).b ∧ q2 = (E k).q) && decide (r2 = (E k).r2 ∧ a2 = (E k).a2 ∧ p2 = (E k).p2 ∧ b2 = (E k).b2 ∧ q2 = (E k).q2)) = z2 at KR
            obtain rfl : m1 = false := hq1.symm.trans hmo
            obtain rfl : m2 = true := hq2.symm.trans hmr
            have HT2 : Hid (tot = clR (clE E now r a p b q) (clE E now r2 a2 p2 b2 q2) (n - (k + 1)) (k + 1) 2) := Lib.hid (HT.out.trans (by rw [clR_no hlt (by unfold clE; rw [hl, hmo]; rfl)]; rw [show clE E now r2 a2 p2 b2 q2 k = true by unfold clE; rw [hl, hmr]; rfl]; rfl))
            clear HT hq1 hq2 hl hmo hmr
            have lgx := hid_lt B_gx
            have g0 := cell_at B_gx 0 rfl
            have g1 := cell_at B_gx 1 rfl
            have g2 := cell_at B_gx 2 rfl
            have g3 := cell_at B_gx 3 rfl
            have g4 := cell_at B_gx 4 rfl
            go_upto_region 5 with fail
            refine wp_region_held_drew (S := fun wx => NoW wr wx) (by kernel_rfl) (Fp.drew (Fp.refl _ _)) (fun hHeld0 => ?_)
            refine any_eq hHeld0 (fun y1 hW hHeld => ?_)
            clear hHeld0
            replace B_gx := hid_blk B_gx (noW_drew hW)
            clear hW
            (refine take_at 0 (some 20) rfl rfl (by kernel_rfl) (by kernel_rfl) (by kernel_rfl) (fun _ _ _ h => h) (v := ?_) (by kernel_rfl) ?_ (by assumption) ?_; rotate_left; (focus (intro wS hSw; skip; go_simp; try with_reducible rfl)); (try simp only [Act.put, List.setIfInBounds_toArray, List.set_cons_zero, List.set_cons_succ]))
            (refine take_at 1 (some 21) rfl rfl (by kernel_rfl) (by kernel_rfl) (by kernel_rfl) (fun _ _ _ h => h) (v := ?_) (by kernel_rfl) ?_ (by assumption) ?_; rotate_left; (focus (intro wS hSw; skip; go_simp; try with_reducible rfl)); (try simp only [Act.put, List.setIfInBounds_toArray, List.set_cons_zero, List.set_cons_succ]))
            (refine take_at 2 (some 22) rfl rfl (by kernel_rfl) (by kernel_rfl) (by kernel_rfl) (fun _ _ _ h => h) (v := ?_) (by kernel_rfl) ?_ (by assumption) ?_; rotate_left; (focus (intro wS hSw; skip; go_simp; try with_reducible rfl)); (try simp only [Act.put, List.setIfInBounds_toArray, List.set_cons_zero, List.set_cons_succ]))
            (refine take_at 3 (some 23) rfl rfl (by kernel_rfl) (by kernel_rfl) (by kernel_rfl) (fun _ _ _ h => h) (v := ?_) (by kernel_rfl) ?_ (by assumption) ?_; rotate_left; (focus (intro wS hSw; (have q0 := (hSw.cell (p := ⟨b0, o0 + k * 13, none⟩) lb id).trans x0); (have q1 := (hSw.cell (p := ⟨b0, o0 + k * 13 + 1, none⟩) lb id).trans x1); (have q2 := (hSw.cell (p := ⟨b0, o0 + k * 13 + 2, none⟩) lb id).trans x2); (have q3 := (hSw.cell (p := ⟨b0, o0 + k * 13 + 3, none⟩) lb id).trans x3); (have q4 := (hSw.cell (p := ⟨b0, o0 + k * 13 + 4, none⟩) lb id).trans x4); (have q5 := (hSw.cell (p := ⟨b0, o0 + k * 13 + 5, none⟩) lb id).trans x5); (have q6 := (hSw.cell (p := ⟨b0, o0 + k * 13 + 6, none⟩) lb id).trans x6); (have q7 := (hSw.cell (p := ⟨b0, o0 + k * 13 + 7, none⟩) lb id).trans x7); (have q8 := (hSw.cell (p := ⟨b0, o0 + k * 13 + 8, none⟩) lb id).trans x8); (have q9 := (hSw.cell (p := ⟨b0, o0 + k * 13 + 9, none⟩) lb id).trans x9); (have q10 := (hSw.cell (p := ⟨b0, o0 + k * 13 + 10, none⟩) lb id).trans x10); (have q11 := (hSw.cell (p := ⟨b0, o0 + k * 13 + 11, none⟩) lb id).trans x11); (have q12 := (hSw.cell (p := ⟨b0, o0 + k * 13 + 12, none⟩) lb id).trans x12); go_simp; try with_reducible rfl)); (try simp only [Act.put, List.setIfInBounds_toArray, List.set_cons_zero, List.set_cons_succ]))
            (refine take_at 4 (some 24) rfl rfl (by kernel_rfl) (by kernel_rfl) (by kernel_rfl) (fun _ _ _ h => h) (v := ?_) (by kernel_rfl) ?_ (by assumption) ?_; rotate_left; (focus (intro wS hSw; skip; go_simp; try with_reducible rfl)); (try simp only [Act.put, List.setIfInBounds_toArray, List.set_cons_zero, List.set_cons_succ]))
            (refine take_at 5 (some 25) rfl rfl (by kernel_rfl) (by kernel_rfl) (by kernel_rfl) (fun _ _ _ h => h) (v := ?_) (by kernel_rfl) ?_ (by assumption) ?_; rotate_left; (focus (intro wS hSw; (have q0 := (hSw.cell (p := ⟨gx, 0, none⟩) lgx id).trans g0); (have q1 := (hSw.cell (p := ⟨gx, 1, none⟩) lgx id).trans g1); (have q2 := (hSw.cell (p := ⟨gx, 2, none⟩) lgx id).trans g2); (have q3 := (hSw.cell (p := ⟨gx, 3, none⟩) lgx id).trans g3); (have q4 := (hSw.cell (p := ⟨gx, 4, none⟩) lgx id).trans g4); go_simp; try with_reducible rfl)); (try simp only [Act.put, List.setIfInBounds_toArray, List.set_cons_zero, List.set_cons_succ]))
            refine wpAnyH_ready (rs := [6]) (by kernel_rfl) (by simp) ?_
            refine AllReadyH.cons rfl (fun K hK => ?_) AllReadyH.nil
            go_simp
            go_at_call 32
            refine (show Calls _ _ _ _ _ from KO.out _).mono ?_
            rintro e y2 ⟨rfl, hp⟩
            have hn := Fp.trans hHeld hp (fun _ _ h => h.elim)
            replace B_gx := hid_blk B_gx hp
            refine k_now hK hn ?_
            clear hK K hp hHeld
            have hHeld := hn
            clear hn
            try simp only [Act.put, List.setIfInBounds_toArray, List.set_cons_zero, List.set_cons_succ]
            (refine take_at 7 (some 19) rfl rfl (by kernel_rfl) (by kernel_rfl) (by kernel_rfl) (fun _ _ _ h => h) (v := ?_) (by kernel_rfl) ?_ (by assumption) ?_; rotate_left; (focus (intro wS hSw; skip; go_simp; try with_reducible rfl)); (try simp only [Act.put, List.setIfInBounds_toArray, List.set_cons_zero, List.set_cons_succ]))
            (refine take_at 8 (some 27) rfl rfl (by kernel_rfl) (by kernel_rfl) (by kernel_rfl) (fun _ _ _ h => h) (v := ?_) (by kernel_rfl) ?_ (by assumption) ?_; rotate_left; (focus (intro wS hSw; skip; go_simp; try with_reducible rfl)); (try simp only [Act.put, List.setIfInBounds_toArray, List.set_cons_zero, List.set_cons_succ]))
            (refine take_at 9 (some 28) rfl rfl (by kernel_rfl) (by kernel_rfl) (by kernel_rfl) (fun _ _ _ h => h) (v := ?_) (by kernel_rfl) ?_ (by assumption) ?_; rotate_left; (focus (intro wS hSw; skip; go_simp; try with_reducible rfl)); (try simp only [Act.put, List.setIfInBounds_toArray, List.set_cons_zero, List.set_cons_succ]))
            (refine take_at 10 (some 9) rfl rfl (by kernel_rfl) (by kernel_rfl) (by kernel_rfl) (fun _ _ _ h => h) (v := ?_) (by kernel_rfl) ?_ (by assumption) ?_; rotate_left; (focus (intro wS hSw; skip; go_simp; try with_reducible rfl)); (try simp only [Act.put, List.setIfInBounds_toArray, List.set_cons_zero, List.set_cons_succ]))
            (refine take_at 11 (some 10) rfl rfl (by kernel_rfl) (by kernel_rfl) (by kernel_rfl) (fun _ _ _ h => h) (v := ?_) (by kernel_rfl) ?_ (by assumption) ?_; rotate_left; (focus (intro wS hSw; skip; go_simp; try with_reducible rfl)); (try simp only [Act.put, List.setIfInBounds_toArray, List.set_cons_zero, List.set_cons_succ]))
            refine wpAnyH_done (by kernel_rfl) ?_ _
            have hx9 := hHeld
            replace x0 := (hx9.cell (p := ⟨b0, o0 + k * 13, none⟩) lb id).trans x0
            replace x1 := (hx9.cell (p := ⟨b0, o0 + k * 13 + 1, none⟩) lb id).trans x1
            replace x2 := (hx9.cell (p := ⟨b0, o0 + k * 13 + 2, none⟩) lb id).trans x2
            replace x3 := (hx9.cell (p := ⟨b0, o0 + k * 13 + 3, none⟩) lb id).trans x3
            replace x4 := (hx9.cell (p := ⟨b0, o0 + k * 13 + 4, none⟩) lb id).trans x4
            replace x5 := (hx9.cell (p := ⟨b0, o0 + k * 13 + 5, none⟩) lb id).trans x5
            replace x6 := (hx9.cell (p := ⟨b0, o0 + k * 13 + 6, none⟩) lb id).trans x6
            replace x7 := (hx9.cell (p := ⟨b0, o0 + k * 13 + 7, none⟩) lb id).trans x7
            replace x8 := (hx9.cell (p := ⟨b0, o0 + k * 13 + 8, none⟩) lb id).trans x8
            replace x9 := (hx9.cell (p := ⟨b0, o0 + k * 13 + 9, none⟩) lb id).trans x9
            replace x10 := (hx9.cell (p := ⟨b0, o0 + k * 13 + 10, none⟩) lb id).trans x10
            replace x11 := (hx9.cell (p := ⟨b0, o0 + k * 13 + 11, none⟩) lb id).trans x11
            replace x12 := (hx9.cell (p := ⟨b0, o0 + k * 13 + 12, none⟩) lb id).trans x12
            replace lb := Nat.lt_of_lt_of_le lb (Fp.size hx9)
            clear hx9 lgx g0 g1 g2 g3 g4
            have hGe := hid_ge HN
            replace HN := hid_now HN hHeld
            clear hHeld hGe
            have lgx := hid_lt B_gx
            have g5 := cell_at B_gx 5 rfl
            have g6 := cell_at B_gx 6 rfl
            have g7 := cell_at B_gx 7 rfl
            have g8 := cell_at B_gx 8 rfl
            have g9 := cell_at B_gx 9 rfl
            go_upto_region 6 with fail
            refine wp_region_held_drew (S := fun wx => NoW y2 wx) (by kernel_rfl) (Fp.drew (Fp.refl _ _)) (fun hHeld0 => ?_)
            refine any_eq hHeld0 (fun y3 hW hHeld => ?_)
            clear hHeld0
            replace B_gx := hid_blk B_gx (noW_drew hW)
            clear hW
            (refine take_at 0 (some 30) rfl rfl (by kernel_rfl) (by kernel_rfl) (by kernel_rfl) (fun _ _ _ h => h) (v := ?_) (by kernel_rfl) ?_ (by assumption) ?_; rotate_left; (focus (intro wS hSw; skip; go_simp; try with_reducible rfl)); (try simp only [Act.put, List.setIfInBounds_toArray, List.set_cons_zero, List.set_cons_succ]))
            (refine take_at 1 (some 31) rfl rfl (by kernel_rfl) (by kernel_rfl) (by kernel_rfl) (fun _ _ _ h => h) (v := ?_) (by kernel_rfl) ?_ (by assumption) ?_; rotate_left; (focus (intro wS hSw; skip; go_simp; try with_reducible rfl)); (try simp only [Act.put, List.setIfInBounds_toArray, List.set_cons_zero, List.set_cons_succ]))
            (refine take_at 2 (some 32) rfl rfl (by kernel_rfl) (by kernel_rfl) (by kernel_rfl) (fun _ _ _ h => h) (v := ?_) (by kernel_rfl) ?_ (by assumption) ?_; rotate_left; (focus (intro wS hSw; skip; go_simp; try with_reducible rfl)); (try simp only [Act.put, List.setIfInBounds_toArray, List.set_cons_zero, List.set_cons_succ]))
            (refine take_at 3 (some 33) rfl rfl (by kernel_rfl) (by kernel_rfl) (by kernel_rfl) (fun _ _ _ h => h) (v := ?_) (by kernel_rfl) ?_ (by assumption) ?_; rotate_left; (focus (intro wS hSw; (have q0 := (hSw.cell (p := ⟨b0, o0 + k * 13, none⟩) lb id).trans x0); (have q1 := (hSw.cell (p := ⟨b0, o0 + k * 13 + 1, none⟩) lb id).trans x1); (have q2 := (hSw.cell (p := ⟨b0, o0 + k * 13 + 2, none⟩) lb id).trans x2); (have q3 := (hSw.cell (p := ⟨b0, o0 + k * 13 + 3, none⟩) lb id).trans x3); (have q4 := (hSw.cell (p := ⟨b0, o0 + k * 13 + 4, none⟩) lb id).trans x4); (have q5 := (hSw.cell (p := ⟨b0, o0 + k * 13 + 5, none⟩) lb id).trans x5); (have q6 := (hSw.cell (p := ⟨b0, o0 + k * 13 + 6, none⟩) lb id).trans x6); (have q7 := (hSw.cell (p := ⟨b0, o0 + k * 13 + 7, none⟩) lb id).trans x7); (have q8 := (hSw.cell (p := ⟨b0, o0 + k * 13 + 8, none⟩) lb id).trans x8); (have q9 := (hSw.cell (p := ⟨b0, o0 + k * 13 + 9, none⟩) lb id).trans x9); (have q10 := (hSw.cell (p := ⟨b0, o0 + k * 13 + 10, none⟩) lb id).trans x10); (have q11 := (hSw.cell (p := ⟨b0, o0 + k * 13 + 11, none⟩) lb id).trans x11); (have q12 := (hSw.cell (p := ⟨b0, o0 + k * 13 + 12, none⟩) lb id).trans x12); go_simp; try with_reducible rfl)); (try simp only [Act.put, List.setIfInBounds_toArray, List.set_cons_zero, List.set_cons_succ]))
            (refine take_at 4 (some 34) rfl rfl (by kernel_rfl) (by kernel_rfl) (by kernel_rfl) (fun _ _ _ h => h) (v := ?_) (by kernel_rfl) ?_ (by assumption) ?_; rotate_left; (focus (intro wS hSw; skip; go_simp; try with_reducible rfl)); (try simp only [Act.put, List.setIfInBounds_toArray, List.set_cons_zero, List.set_cons_succ]))
            (refine take_at 5 (some 35) rfl rfl (by kernel_rfl) (by kernel_rfl) (by kernel_rfl) (fun _ _ _ h => h) (v := ?_) (by kernel_rfl) ?_ (by assumption) ?_; rotate_left; (focus (intro wS hSw; (have q5 := (hSw.cell (p := ⟨gx, 5, none⟩) lgx id).trans g5); (have q6 := (hSw.cell (p := ⟨gx, 6, none⟩) lgx id).trans g6); (have q7 := (hSw.cell (p := ⟨gx, 7, none⟩) lgx id).trans g7); (have q8 := (hSw.cell (p := ⟨gx, 8, none⟩) lgx id).trans g8); (have q9 := (hSw.cell (p := ⟨gx, 9, none⟩) lgx id).trans g9); go_simp; try with_reducible rfl)); (try simp only [Act.put, List.setIfInBounds_toArray, List.set_cons_zero, List.set_cons_succ]))
            refine wpAnyH_ready (rs := [6]) (by kernel_rfl) (by simp) ?_
            refine AllReadyH.cons rfl (fun K hK => ?_) AllReadyH.nil
            go_simp
            go_at_call 32
            refine (show Calls _ _ _ _ _ from KR.out _).mono ?_
            rintro e y4 ⟨rfl, hp⟩
            have hn := Fp.trans hHeld hp (fun _ _ h => h.elim)
            replace B_gx := hid_blk B_gx hp
            refine k_now hK hn ?_
            clear hK K hp hHeld
            have hHeld := hn
            clear hn
            try simp only [Act.put, List.setIfInBounds_toArray, List.set_cons_zero, List.set_cons_succ]
            (refine take_at 7 (some 29) rfl rfl (by kernel_rfl) (by kernel_rfl) (by kernel_rfl) (fun _ _ _ h => h) (v := ?_) (by kernel_rfl) ?_ (by assumption) ?_; rotate_left; (focus (intro wS hSw; skip; go_simp; try with_reducible rfl)); (try simp only [Act.put, List.setIfInBounds_toArray, List.set_cons_zero, List.set_cons_succ]))
            (refine take_at 8 (some 37) rfl rfl (by kernel_rfl) (by kernel_rfl) (by kernel_rfl) (fun _ _ _ h => h) (v := ?_) (by kernel_rfl) ?_ (by assumption) ?_; rotate_left; (focus (intro wS hSw; skip; go_simp; try with_reducible rfl)); (try simp only [Act.put, List.setIfInBounds_toArray, List.set_cons_zero, List.set_cons_succ]))
            (refine take_at 9 (some 38) rfl rfl (by kernel_rfl) (by kernel_rfl) (by kernel_rfl) (fun _ _ _ h => h) (v := ?_) (by kernel_rfl) ?_ (by assumption) ?_; rotate_left; (focus (intro wS hSw; skip; go_simp; try with_reducible rfl)); (try simp only [Act.put, List.setIfInBounds_toArray, List.set_cons_zero, List.set_cons_succ]))
            (refine take_at 10 (some 11) rfl rfl (by kernel_rfl) (by kernel_rfl) (by kernel_rfl) (fun _ _ _ h => h) (v := ?_) (by kernel_rfl) ?_ (by assumption) ?_; rotate_left; (focus (intro wS hSw; skip; go_simp; try with_reducible rfl)); (try simp only [Act.put, List.setIfInBounds_toArray, List.set_cons_zero, List.set_cons_succ]))
            (refine take_at 11 (some 12) rfl rfl (by kernel_rfl) (by kernel_rfl) (by kernel_rfl) (fun _ _ _ h => h) (v := ?_) (by kernel_rfl) ?_ (by assumption) ?_; rotate_left; (focus (intro wS hSw; skip; go_simp; try with_reducible rfl)); (try simp only [Act.put, List.setIfInBounds_toArray, List.set_cons_zero, List.set_cons_succ]))
            refine wpAnyH_done (by kernel_rfl) ?_ _
            have hx9 := hHeld
            replace x0 := (hx9.cell (p := ⟨b0, o0 + k * 13, none⟩) lb id).trans x0
            replace x1 := (hx9.cell (p := ⟨b0, o0 + k * 13 + 1, none⟩) lb id).trans x1
            replace x2 := (hx9.cell (p := ⟨b0, o0 + k * 13 + 2, none⟩) lb id).trans x2
            replace x3 := (hx9.cell (p := ⟨b0, o0 + k * 13 + 3, none⟩) lb id).trans x3
            replace x4 := (hx9.cell (p := ⟨b0, o0 + k * 13 + 4, none⟩) lb id).trans x4
            replace x5 := (hx9.cell (p := ⟨b0, o0 + k * 13 + 5, none⟩) lb id).trans x5
            replace x6 := (hx9.cell (p := ⟨b0, o0 + k * 13 + 6, none⟩) lb id).trans x6
            replace x7 := (hx9.cell (p := ⟨b0, o0 + k * 13 + 7, none⟩) lb id).trans x7
            replace x8 := (hx9.cell (p := ⟨b0, o0 + k * 13 + 8, none⟩) lb id).trans x8
            replace x9 := (hx9.cell (p := ⟨b0, o0 + k * 13 + 9, none⟩) lb id).trans x9
            replace x10 := (hx9.cell (p := ⟨b0, o0 + k * 13 + 10, none⟩) lb id).trans x10
            replace x11 := (hx9.cell (p := ⟨b0, o0 + k * 13 + 11, none⟩) lb id).trans x11
            replace x12 := (hx9.cell (p := ⟨b0, o0 + k * 13 + 12, none⟩) lb id).trans x12
            replace lb := Nat.lt_of_lt_of_le lb (Fp.size hx9)
            clear hx9 lgx g5 g6 g7 g8 g9
            have hGe := hid_ge HN
            replace HN := hid_now HN hHeld
            clear hHeld hGe
            go_wp2_with fail
            refine (show Calls _ _ _ _ _ from KL.out _).mono ?_
            rintro e y5 ⟨rfl, hp⟩
            replace HN := hid_now HN hp
            replace B_gx := hid_blk B_gx hp
            replace x0 := (hp.cell (p := ⟨b0, o0 + k * 13, none⟩) lb id).trans x0
            replace x1 := (hp.cell (p := ⟨b0, o0 + k * 13 + 1, none⟩) lb id).trans x1
            replace x2 := (hp.cell (p := ⟨b0, o0 + k * 13 + 2, none⟩) lb id).trans x2
            replace x3 := (hp.cell (p := ⟨b0, o0 + k * 13 + 3, none⟩) lb id).trans x3
            replace x4 := (hp.cell (p := ⟨b0, o0 + k * 13 + 4, none⟩) lb id).trans x4
            replace x5 := (hp.cell (p := ⟨b0, o0 + k * 13 + 5, none⟩) lb id).trans x5
            replace x6 := (hp.cell (p := ⟨b0, o0 + k * 13 + 6, none⟩) lb id).trans x6
            replace x7 := (hp.cell (p := ⟨b0, o0 + k * 13 + 7, none⟩) lb id).trans x7
            replace x8 := (hp.cell (p := ⟨b0, o0 + k * 13 + 8, none⟩) lb id).trans x8
            replace x9 := (hp.cell (p := ⟨b0, o0 + k * 13 + 9, none⟩) lb id).trans x9
            replace x10 := (hp.cell (p := ⟨b0, o0 + k * 13 + 10, none⟩) lb id).trans x10
            replace x11 := (hp.cell (p := ⟨b0, o0 + k * 13 + 11, none⟩) lb id).trans x11
            replace x12 := (hp.cell (p := ⟨b0, o0 + k * 13 + 12, none⟩) lb id).trans x12
            replace lb := Nat.lt_of_lt_of_le lb (Fp.size hp)
            clear hp
            go_wp2_with fail
            clear x0 x1 x2 x3 x4 x5 x6 x7 x8 x9 x10 x11 x12
            refine (show Calls _ _ _ _ _ from KL.out _).mono ?_
            rintro e y6 ⟨rfl, hp⟩
            replace HN := hid_now HN hp
            replace B_gx := hid_blk B_gx hp
            clear hp
            go_wp2_with fail
            go_roundg (n - k)
            case measure => have := Hg.out; omega
            case rel => exact ⟨k + 1, 2, by omega, by omega, by go_num, rfl, HT2.out, B_gx.out, HN.out⟩
        · have KL := Lib.hid (fun W => rlive_ok (E k).r (E k).a (E k).p (E k).b (E k).q (E k).r2 (E k).a2 (E k).p2 (E k).b2 (E k).q2 (E k).st (E k).dl (.slice (E k).ad (E k).n (E k).c) now W)
          rw [hl] at KL
          have KO := Lib.hid (fun W => rmatch_ok (E k).r (E k).a (E k).p (E k).b (E k).q (E k).r2 (E k).a2 (E k).p2 (E k).b2 (E k).q2 r a p b q (E k).st (E k).dl (.slice (E k).ad (E k).n (E k).c) W)
          generalize hq1 : (decide (r = (E k).r ∧ a = (E k).a ∧ p = (E k).p ∧ b = (E k).b ∧ q = (E k).q) || decide (r = (E k).r2 ∧ a = (E k).a2 ∧ p = (E k).p2 ∧ b = (E k).b2 ∧ q = (E k).q2)) = m1 at KO
          generalize (!decide (r = (E k).r ∧ a = (E k).a ∧ p = (E k).p ∧ b = (E k).b ∧ q = (E k).q) && decide (r = (E k).r2 ∧ a = (E k).a2 ∧ p = (E k).p2 ∧ b = (E k).b2 ∧ q = (E k).q2)) = z1 at KO
          have KR := Lib.hid (fun W => rmatch_ok (E k).r (E k).a (E k).p (E k).b (E k).q (E k).r2 (E k).a2 (E k).p2 (E k).b2 (E k).q2 r2 a2 p2 b2 q2 (E k).st (E k).dl (.slice (E k).ad (E k).n (E k).c) W)
          generalize hq2 : (decide (r2 = (E k).r ∧ a2 = (E k).a ∧ p2 = (E k).p ∧ b2 = (E k).b ∧ q2 = (E k).q) || decide (r2 = (E k).r2 ∧ a2 = (E k).a2 ∧ p2 = (E k).p2 ∧ b2 = (E k).b2 ∧ q2 = (E k).q2)) = m2 at KR
          generalize (!decide (r2 = (E k).r ∧ a2 = (E k).a ∧ p2 = (E k).p ∧ b2 = (E k).b ∧ q2 = (E k).q) && decide (r2 = (E k).r2 ∧ a2 = (E k).a2 ∧ p2 = (E k).p2 ∧ b2 = (E k).b2 ∧ q2 = (E k).q2)) = z2 at KR
          obtain rfl : m1 = true := hq1.symm.trans hmo
          have ht2 : tot = 1 := HT.out.trans (clR_yes hlt (by unfold clE; rw [hl, hmo]; rfl))
          clear HT hq1 hq2 hl hmo
          have lgx := hid_lt B_gx
          have g0 := cell_at B_gx 0 rfl
          have g1 := cell_at B_gx 1 rfl
          have g2 := cell_at B_gx 2 rfl
          have g3 := cell_at B_gx 3 rfl
          have g4 := cell_at B_gx 4 rfl
          go_upto_region 5 with fail
          refine wp_region_held_drew (S := fun wx => NoW wr wx) (by kernel_rfl) (Fp.drew (Fp.refl _ _)) (fun hHeld0 => ?_)
          refine any_eq hHeld0 (fun y1 hW hHeld => ?_)
          clear hHeld0
          replace B_gx := hid_blk B_gx (noW_drew hW)
          clear hW
          (refine take_at 0 (some 20) rfl rfl (by kernel_rfl) (by kernel_rfl) (by kernel_rfl) (fun _ _ _ h => h) (v := ?_) (by kernel_rfl) ?_ (by assumption) ?_; rotate_left; (focus (intro wS hSw; skip; go_simp; try with_reducible rfl)); (try simp only [Act.put, List.setIfInBounds_toArray, List.set_cons_zero, List.set_cons_succ]))
          (refine take_at 1 (some 21) rfl rfl (by kernel_rfl) (by kernel_rfl) (by kernel_rfl) (fun _ _ _ h => h) (v := ?_) (by kernel_rfl) ?_ (by assumption) ?_; rotate_left; (focus (intro wS hSw; skip; go_simp; try with_reducible rfl)); (try simp only [Act.put, List.setIfInBounds_toArray, List.set_cons_zero, List.set_cons_succ]))
          (refine take_at 2 (some 22) rfl rfl (by kernel_rfl) (by kernel_rfl) (by kernel_rfl) (fun _ _ _ h => h) (v := ?_) (by kernel_rfl) ?_ (by assumption) ?_; rotate_left; (focus (intro wS hSw; skip; go_simp; try with_reducible rfl)); (try simp only [Act.put, List.setIfInBounds_toArray, List.set_cons_zero, List.set_cons_succ]))
          (refine take_at 3 (some 23) rfl rfl (by kernel_rfl) (by kernel_rfl) (by kernel_rfl) (fun _ _ _ h => h) (v := ?_) (by kernel_rfl) ?_ (by assumption) ?_; rotate_left; (focus (intro wS hSw; (have q0 := (hSw.cell (p := ⟨b0, o0 + k * 13, none⟩) lb id).trans x0); (have q1 := (hSw.cell (p := ⟨b0, o0 + k * 13 + 1, none⟩) lb id).trans x1); (have q2 := (hSw.cell (p := ⟨b0, o0 + k * 13 + 2, none⟩) lb id).trans x2); (have q3 := (hSw.cell (p := ⟨b0, o0 + k * 13 + 3, none⟩) lb id).trans x3); (have q4 := (hSw.cell (p := ⟨b0, o0 + k * 13 + 4, none⟩) lb id).trans x4); (have q5 := (hSw.cell (p := ⟨b0, o0 + k * 13 + 5, none⟩) lb id).trans x5); (have q6 := (hSw.cell (p := ⟨b0, o0 + k * 13 + 6, none⟩) lb id).trans x6); (have q7 := (hSw.cell (p := ⟨b0, o0 + k * 13 + 7, none⟩) lb id).trans x7); (have q8 := (hSw.cell (p := ⟨b0, o0 + k * 13 + 8, none⟩) lb id).trans x8); (have q9 := (hSw.cell (p := ⟨b0, o0 + k * 13 + 9, none⟩) lb id).trans x9); (have q10 := (hSw.cell (p := ⟨b0, o0 + k * 13 + 10, none⟩) lb id).trans x10); (have q11 := (hSw.cell (p := ⟨b0, o0 + k * 13 + 11, none⟩) lb id).trans x11); (have q12 := (hSw.cell (p := ⟨b0, o0 + k * 13 + 12, none⟩) lb id).trans x12); go_simp; try with_reducible rfl)); (try simp only [Act.put, List.setIfInBounds_toArray, List.set_cons_zero, List.set_cons_succ]))
          (refine take_at 4 (some 24) rfl rfl (by kernel_rfl) (by kernel_rfl) (by kernel_rfl) (fun _ _ _ h => h) (v := ?_) (by kernel_rfl) ?_ (by assumption) ?_; rotate_left; (focus (intro wS hSw; skip; go_simp; try with_reducible rfl)); (try simp only [Act.put, List.setIfInBounds_toArray, List.set_cons_zero, List.set_cons_succ]))
          (refine take_at 5 (some 25) rfl rfl (by kernel_rfl) (by kernel_rfl) (by kernel_rfl) (fun _ _ _ h => h) (v := ?_) (by kernel_rfl) ?_ (by assumption) ?_; rotate_left; (focus (intro wS hSw; (have q0 := (hSw.cell (p := ⟨gx, 0, none⟩) lgx id).trans g0); (have q1 := (hSw.cell (p := ⟨gx, 1, none⟩) lgx id).trans g1); (have q2 := (hSw.cell (p := ⟨gx, 2, none⟩) lgx id).trans g2); (have q3 := (hSw.cell (p := ⟨gx, 3, none⟩) lgx id).trans g3); (have q4 := (hSw.cell (p := ⟨gx, 4, none⟩) lgx id).trans g4); go_simp; try with_reducible rfl)); (try simp only [Act.put, List.setIfInBounds_toArray, List.set_cons_zero, List.set_cons_succ]))
          refine wpAnyH_ready (rs := [6]) (by kernel_rfl) (by simp) ?_
          refine AllReadyH.cons rfl (fun K hK => ?_) AllReadyH.nil
          go_simp
          go_at_call 32
          refine (show Calls _ _ _ _ _ from KO.out _).mono ?_
          rintro e y2 ⟨rfl, hp⟩
          have hn := Fp.trans hHeld hp (fun _ _ h => h.elim)
          replace B_gx := hid_blk B_gx hp
          refine k_now hK hn ?_
          clear hK K hp hHeld
          have hHeld := hn
          clear hn
          try simp only [Act.put, List.setIfInBounds_toArray, List.set_cons_zero, List.set_cons_succ]
          (refine take_at 7 (some 19) rfl rfl (by kernel_rfl) (by kernel_rfl) (by kernel_rfl) (fun _ _ _ h => h) (v := ?_) (by kernel_rfl) ?_ (by assumption) ?_; rotate_left; (focus (intro wS hSw; skip; go_simp; try with_reducible rfl)); (try simp only [Act.put, List.setIfInBounds_toArray, List.set_cons_zero, List.set_cons_succ]))
          (refine take_at 8 (some 27) rfl rfl (by kernel_rfl) (by kernel_rfl) (by kernel_rfl) (fun _ _ _ h => h) (v := ?_) (by kernel_rfl) ?_ (by assumption) ?_; rotate_left; (focus (intro wS hSw; skip; go_simp; try with_reducible rfl)); (try simp only [Act.put, List.setIfInBounds_toArray, List.set_cons_zero, List.set_cons_succ]))
          (refine take_at 9 (some 28) rfl rfl (by kernel_rfl) (by kernel_rfl) (by kernel_rfl) (fun _ _ _ h => h) (v := ?_) (by kernel_rfl) ?_ (by assumption) ?_; rotate_left; (focus (intro wS hSw; skip; go_simp; try with_reducible rfl)); (try simp only [Act.put, List.setIfInBounds_toArray, List.set_cons_zero, List.set_cons_succ]))
          (refine take_at 10 (some 9) rfl rfl (by kernel_rfl) (by kernel_rfl) (by kernel_rfl) (fun _ _ _ h => h) (v := ?_) (by kernel_rfl) ?_ (by assumption) ?_; rotate_left; (focus (intro wS hSw; skip; go_simp; try with_reducible rfl)); (try simp only [Act.put, List.setIfInBounds_toArray, List.set_cons_zero, List.set_cons_succ]))
          (refine take_at 11 (some 10) rfl rfl (by kernel_rfl) (by kernel_rfl) (by kernel_rfl) (fun _ _ _ h => h) (v := ?_) (by kernel_rfl) ?_ (by assumption) ?_; rotate_left; (focus (intro wS hSw; skip; go_simp; try with_reducible rfl)); (try simp only [Act.put, List.setIfInBounds_toArray, List.set_cons_zero, List.set_cons_succ]))
          refine wpAnyH_done (by kernel_rfl) ?_ _
          have hx9 := hHeld
          replace x0 := (hx9.cell (p := ⟨b0, o0 + k * 13, none⟩) lb id).trans x0
          replace x1 := (hx9.cell (p := ⟨b0, o0 + k * 13 + 1, none⟩) lb id).trans x1
          replace x2 := (hx9.cell (p := ⟨b0, o0 + k * 13 + 2, none⟩) lb id).trans x2
          replace x3 := (hx9.cell (p := ⟨b0, o0 + k * 13 + 3, none⟩) lb id).trans x3
          replace x4 := (hx9.cell (p := ⟨b0, o0 + k * 13 + 4, none⟩) lb id).trans x4
          replace x5 := (hx9.cell (p := ⟨b0, o0 + k * 13 + 5, none⟩) lb id).trans x5
          replace x6 := (hx9.cell (p := ⟨b0, o0 + k * 13 + 6, none⟩) lb id).trans x6
          replace x7 := (hx9.cell (p := ⟨b0, o0 + k * 13 + 7, none⟩) lb id).trans x7
          replace x8 := (hx9.cell (p := ⟨b0, o0 + k * 13 + 8, none⟩) lb id).trans x8
          replace x9 := (hx9.cell (p := ⟨b0, o0 + k * 13 + 9, none⟩) lb id).trans x9
          replace x10 := (hx9.cell (p := ⟨b0, o0 + k * 13 + 10, none⟩) lb id).trans x10
          replace x11 := (hx9.cell (p := ⟨b0, o0 + k * 13 + 11, none⟩) lb id).trans x11
          replace x12 := (hx9.cell (p := ⟨b0, o0 + k * 13 + 12, none⟩) lb id).trans x12
          replace lb := Nat.lt_of_lt_of_le lb (Fp.size hx9)
          clear hx9 lgx g0 g1 g2 g3 g4
          have hGe := hid_ge HN
          replace HN := hid_now HN hHeld
          clear hHeld hGe
          have lgx := hid_lt B_gx
          have g5 := cell_at B_gx 5 rfl
          have g6 := cell_at B_gx 6 rfl
          have g7 := cell_at B_gx 7 rfl
          have g8 := cell_at B_gx 8 rfl
          have g9 := cell_at B_gx 9 rfl
          go_upto_region 6 with fail
          refine wp_region_held_drew (S := fun wx => NoW y2 wx) (by kernel_rfl) (Fp.drew (Fp.refl _ _)) (fun hHeld0 => ?_)
          refine any_eq hHeld0 (fun y3 hW hHeld => ?_)
          clear hHeld0
          replace B_gx := hid_blk B_gx (noW_drew hW)
          clear hW
          (refine take_at 0 (some 30) rfl rfl (by kernel_rfl) (by kernel_rfl) (by kernel_rfl) (fun _ _ _ h => h) (v := ?_) (by kernel_rfl) ?_ (by assumption) ?_; rotate_left; (focus (intro wS hSw; skip; go_simp; try with_reducible rfl)); (try simp only [Act.put, List.setIfInBounds_toArray, List.set_cons_zero, List.set_cons_succ]))
          (refine take_at 1 (some 31) rfl rfl (by kernel_rfl) (by kernel_rfl) (by kernel_rfl) (fun _ _ _ h => h) (v := ?_) (by kernel_rfl) ?_ (by assumption) ?_; rotate_left; (focus (intro wS hSw; skip; go_simp; try with_reducible rfl)); (try simp only [Act.put, List.setIfInBounds_toArray, List.set_cons_zero, List.set_cons_succ]))
          (refine take_at 2 (some 32) rfl rfl (by kernel_rfl) (by kernel_rfl) (by kernel_rfl) (fun _ _ _ h => h) (v := ?_) (by kernel_rfl) ?_ (by assumption) ?_; rotate_left; (focus (intro wS hSw; skip; go_simp; try with_reducible rfl)); (try simp only [Act.put, List.setIfInBounds_toArray, List.set_cons_zero, List.set_cons_succ]))
          (refine take_at 3 (some 33) rfl rfl (by kernel_rfl) (by kernel_rfl) (by kernel_rfl) (fun _ _ _ h => h) (v := ?_) (by kernel_rfl) ?_ (by assumption) ?_; rotate_left; (focus (intro wS hSw; (have q0 := (hSw.cell (p := ⟨b0, o0 + k * 13, none⟩) lb id).trans x0); (have q1 := (hSw.cell (p := ⟨b0, o0 + k * 13 + 1, none⟩) lb id).trans x1); (have q2 := (hSw.cell (p := ⟨b0, o0 + k * 13 + 2, none⟩) lb id).trans x2); (have q3 := (hSw.cell (p := ⟨b0, o0 + k * 13 + 3, none⟩) lb id).trans x3); (have q4 := (hSw.cell (p := ⟨b0, o0 + k * 13 + 4, none⟩) lb id).trans x4); (have q5 := (hSw.cell (p := ⟨b0, o0 + k * 13 + 5, none⟩) lb id).trans x5); (have q6 := (hSw.cell (p := ⟨b0, o0 + k * 13 + 6, none⟩) lb id).trans x6); (have q7 := (hSw.cell (p := ⟨b0, o0 + k * 13 + 7, none⟩) lb id).trans x7); (have q8 := (hSw.cell (p := ⟨b0, o0 + k * 13 + 8, none⟩) lb id).trans x8); (have q9 := (hSw.cell (p := ⟨b0, o0 + k * 13 + 9, none⟩) lb id).trans x9); (have q10 := (hSw.cell (p := ⟨b0, o0 + k * 13 + 10, none⟩) lb id).trans x10); (have q11 := (hSw.cell (p := ⟨b0, o0 + k * 13 + 11, none⟩) lb id).trans x11); (have q12 := (hSw.cell (p := ⟨b0, o0 + k * 13 + 12, none⟩) lb id).trans x12); go_simp; try with_reducible rfl)); (try simp only [Act.put, List.setIfInBounds_toArray, List.set_cons_zero, List.set_cons_succ]))
          (refine take_at 4 (some 34) rfl rfl (by kernel_rfl) (by kernel_rfl) (by kernel_rfl) (fun _ _ _ h => h) (v := ?_) (by kernel_rfl) ?_ (by assumption) ?_; rotate_left; (focus (intro wS hSw; skip; go_simp; try with_reducible rfl)); (try simp only [Act.put, List.setIfInBounds_toArray, List.set_cons_zero, List.set_cons_succ]))
          (refine take_at 5 (some 35) rfl rfl (by kernel_rfl) (by kernel_rfl) (by kernel_rfl) (fun _ _ _ h => h) (v := ?_) (by kernel_rfl) ?_ (by assumption) ?_; rotate_left; (focus (intro wS hSw; (have q5 := (hSw.cell (p := ⟨gx, 5, none⟩) lgx id).trans g5); (have q6 := (hSw.cell (p := ⟨gx, 6, none⟩) lgx id).trans g6); (have q7 := (hSw.cell (p := ⟨gx, 7, none⟩) lgx id).trans g7); (have q8 := (hSw.cell (p := ⟨gx, 8, none⟩) lgx id).trans g8); (have q9 := (hSw.cell (p := ⟨gx, 9, none⟩) lgx id).trans g9); go_simp; try with_reducible rfl)); (try simp only [Act.put, List.setIfInBounds_toArray, List.set_cons_zero, List.set_cons_succ]))
          refine wpAnyH_ready (rs := [6]) (by kernel_rfl) (by simp) ?_
          refine AllReadyH.cons rfl (fun K hK => ?_) AllReadyH.nil
          go_simp
          go_at_call 32
          refine (show Calls _ _ _ _ _ from KR.out _).mono ?_
          rintro e y4 ⟨rfl, hp⟩
          have hn := Fp.trans hHeld hp (fun _ _ h => h.elim)
          replace B_gx := hid_blk B_gx hp
          refine k_now hK hn ?_
          clear hK K hp hHeld
          have hHeld := hn
          clear hn
          try simp only [Act.put, List.setIfInBounds_toArray, List.set_cons_zero, List.set_cons_succ]
          (refine take_at 7 (some 29) rfl rfl (by kernel_rfl) (by kernel_rfl) (by kernel_rfl) (fun _ _ _ h => h) (v := ?_) (by kernel_rfl) ?_ (by assumption) ?_; rotate_left; (focus (intro wS hSw; skip; go_simp; try with_reducible rfl)); (try simp only [Act.put, List.setIfInBounds_toArray, List.set_cons_zero, List.set_cons_succ]))
          (refine take_at 8 (some 37) rfl rfl (by kernel_rfl) (by kernel_rfl) (by kernel_rfl) (fun _ _ _ h => h) (v := ?_) (by kernel_rfl) ?_ (by assumption) ?_; rotate_left; (focus (intro wS hSw; skip; go_simp; try with_reducible rfl)); (try simp only [Act.put, List.setIfInBounds_toArray, List.set_cons_zero, List.set_cons_succ]))
          (refine take_at 9 (some 38) rfl rfl (by kernel_rfl) (by kernel_rfl) (by kernel_rfl) (fun _ _ _ h => h) (v := ?_) (by kernel_rfl) ?_ (by assumption) ?_; rotate_left; (focus (intro wS hSw; skip; go_simp; try with_reducible rfl)); (try simp only [Act.put, List.setIfInBounds_toArray, List.set_cons_zero, List.set_cons_succ]))
          (refine take_at 10 (some 11) rfl rfl (by kernel_rfl) (by kernel_rfl) (by kernel_rfl) (fun _ _ _ h => h) (v := ?_) (by kernel_rfl) ?_ (by assumption) ?_; rotate_left; (focus (intro wS hSw; skip; go_simp; try with_reducible rfl)); (try simp only [Act.put, List.setIfInBounds_toArray, List.set_cons_zero, List.set_cons_succ]))
          (refine take_at 11 (some 12) rfl rfl (by kernel_rfl) (by kernel_rfl) (by kernel_rfl) (fun _ _ _ h => h) (v := ?_) (by kernel_rfl) ?_ (by assumption) ?_; rotate_left; (focus (intro wS hSw; skip; go_simp; try with_reducible rfl)); (try simp only [Act.put, List.setIfInBounds_toArray, List.set_cons_zero, List.set_cons_succ]))
          refine wpAnyH_done (by kernel_rfl) ?_ _
          have hx9 := hHeld
          replace x0 := (hx9.cell (p := ⟨b0, o0 + k * 13, none⟩) lb id).trans x0
          replace x1 := (hx9.cell (p := ⟨b0, o0 + k * 13 + 1, none⟩) lb id).trans x1
          replace x2 := (hx9.cell (p := ⟨b0, o0 + k * 13 + 2, none⟩) lb id).trans x2
          replace x3 := (hx9.cell (p := ⟨b0, o0 + k * 13 + 3, none⟩) lb id).trans x3
          replace x4 := (hx9.cell (p := ⟨b0, o0 + k * 13 + 4, none⟩) lb id).trans x4
          replace x5 := (hx9.cell (p := ⟨b0, o0 + k * 13 + 5, none⟩) lb id).trans x5
          replace x6 := (hx9.cell (p := ⟨b0, o0 + k * 13 + 6, none⟩) lb id).trans x6
          replace x7 := (hx9.cell (p := ⟨b0, o0 + k * 13 + 7, none⟩) lb id).trans x7
          replace x8 := (hx9.cell (p := ⟨b0, o0 + k * 13 + 8, none⟩) lb id).trans x8
          replace x9 := (hx9.cell (p := ⟨b0, o0 + k * 13 + 9, none⟩) lb id).trans x9
          replace x10 := (hx9.cell (p := ⟨b0, o0 + k * 13 + 10, none⟩) lb id).trans x10
          replace x11 := (hx9.cell (p := ⟨b0, o0 + k * 13 + 11, none⟩) lb id).trans x11
          replace x12 := (hx9.cell (p := ⟨b0, o0 + k * 13 + 12, none⟩) lb id).trans x12
          replace lb := Nat.lt_of_lt_of_le lb (Fp.size hx9)
          clear hx9 lgx g5 g6 g7 g8 g9
          have hGe := hid_ge HN
          replace HN := hid_now HN hHeld
          clear hHeld hGe
          go_wp2_with fail
          refine (show Calls _ _ _ _ _ from KL.out _).mono ?_
          rintro e y5 ⟨rfl, hp⟩
          replace HN := hid_now HN hp
          replace B_gx := hid_blk B_gx hp
          replace x0 := (hp.cell (p := ⟨b0, o0 + k * 13, none⟩) lb id).trans x0
          replace x1 := (hp.cell (p := ⟨b0, o0 + k * 13 + 1, none⟩) lb id).trans x1
          replace x2 := (hp.cell (p := ⟨b0, o0 + k * 13 + 2, none⟩) lb id).trans x2
          replace x3 := (hp.cell (p := ⟨b0, o0 + k * 13 + 3, none⟩) lb id).trans x3
          replace x4 := (hp.cell (p := ⟨b0, o0 + k * 13 + 4, none⟩) lb id).trans x4
          replace x5 := (hp.cell (p := ⟨b0, o0 + k * 13 + 5, none⟩) lb id).trans x5
          replace x6 := (hp.cell (p := ⟨b0, o0 + k * 13 + 6, none⟩) lb id).trans x6
          replace x7 := (hp.cell (p := ⟨b0, o0 + k * 13 + 7, none⟩) lb id).trans x7
          replace x8 := (hp.cell (p := ⟨b0, o0 + k * 13 + 8, none⟩) lb id).trans x8
          replace x9 := (hp.cell (p := ⟨b0, o0 + k * 13 + 9, none⟩) lb id).trans x9
          replace x10 := (hp.cell (p := ⟨b0, o0 + k * 13 + 10, none⟩) lb id).trans x10
          replace x11 := (hp.cell (p := ⟨b0, o0 + k * 13 + 11, none⟩) lb id).trans x11
          replace x12 := (hp.cell (p := ⟨b0, o0 + k * 13 + 12, none⟩) lb id).trans x12
          replace lb := Nat.lt_of_lt_of_le lb (Fp.size hp)
          clear hp
          go_wp2_with fail
          subst ht2
          go_ret
          exact ⟨rfl, HN.out⟩
    · obtain rfl : k = n := by omega
      have htot := HT.out
      rw [Nat.sub_self] at htot
      subst htot
      clear HT
      go_wp2_with fail
      go_ret
      exact ⟨rfl, HN.out⟩
end Go.Proofs.YtaiimkcmgiceeaaDoor
