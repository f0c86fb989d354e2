/- Chapter 18, EntriesAmong: the law's walk, whatever the arguments are. -/
import Derived.Test.YtaiimkcmgiceeaaDoorAmK
import Derived.Test.YtaiimkcmgiceeaaDoorSeeE
namespace Go.Proofs.YtaiimkcmgiceeaaDoor
set_option linter.unusedVariables false
set_option linter.unusedSimpArgs false
open Go.RowKit Go.Lib Go.Sort
theorem walk_EntriesAmong (w : World) (ht : Tb w) (v0 v1 v2 : Value) (g0 : Good Tryd.prog w 22 v0) (g1 : Good Tryd.prog w 32 v1) (g2 : Good Tryd.prog w 3 v2) : Calls Tryd.prog 3 #[v0, v1, v2] w (Ret1 (.bool true) w) := by
  obtain ⟨sl, n, c, E, O, rfl, hnc, hcm, hE, hH⟩ := ents_open g0
  obtain ⟨r, a, p, b, q, r2, a2, p2, b2, q2, st, dl, ad, m, cx, oa, op, ia, ip, rfl, ⟨h1, h2, h3, h4, h5⟩, ⟨h6, h7, h8, h9, h10⟩, h11, h12, hx⟩ := ent_open g1
  obtain ⟨now, rfl, _⟩ := good_int Tryd.underlying3 g2
  have hX : EntD.Ok ⟨r, a, p, b, q, r2, a2, p2, b2, q2, st, dl, ad, m, cx⟩ := ⟨h1, h2, h3, h4, h5, h6, h7, h8, h9, h10, h11, h12, Nat.le_trans hx.nc hx.cm⟩
  rcases hL : longB n (fun i => (E i).n) 40 with _ | _
  · rcases hL2 : longB 1 (fun _ => m) 1 with _ | _
    · exact am_main sl n c E O ⟨r, a, p, b, q, r2, a2, p2, b2, q2, st, dl, ad, m, cx⟩ (oa, op, ia, ip) now (Nat.le_trans hnc hcm) hnc hX w ht hE (fun i hi => (hH i hi).at') hx.at' hL hL2
    · exact am_long2 sl n c E O ⟨r, a, p, b, q, r2, a2, p2, b2, q2, st, dl, ad, m, cx⟩ (oa, op, ia, ip) now (Nat.le_trans hnc hcm) hnc hX w ht hE (fun i hi => (hH i hi).at') hx.at' hL hL2
  · exact am_long1 sl n c E O ⟨r, a, p, b, q, r2, a2, p2, b2, q2, st, dl, ad, m, cx⟩ (oa, op, ia, ip) now (Nat.le_trans hnc hcm) hnc hX w ht hE (fun i hi => (hH i hi).at') hx.at' hL
end Go.Proofs.YtaiimkcmgiceeaaDoor
