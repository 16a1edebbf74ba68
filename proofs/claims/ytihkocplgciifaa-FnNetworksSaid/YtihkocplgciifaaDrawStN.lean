/- Chapter 3, the walks: the single stations that the laws draw. (By gen_drawStM.py.) -/
import Derived.Test.YtihkocplgciifaaProg
import Derived.Test.YtihkocplgciifaaDrawStM
import Derived.Deep.RegionHeld3
namespace Go.Proofs.Ytihkocplgciifaa
open Go.RowKit

set_option maxHeartbeats 4000000 in
set_option maxRecDepth 100000 in
theorem drawIsStation_any (A : Option Addr) (n c : Nat) (xs : List Int) (w : World) (hr : RB w w.heap.size A n xs) (hn : n ≤ 65536) :
    Calls Try.prog 61 #[.slice A n c] w (RetDS w) := by
  have hz : w.heap.size + 1 = (w.alloc (.cells #[.int .i64 0, .string ⟨#[]⟩, .int .i64 0, .int .i64 0, .int .i64 0, .int .i64 0, .int .i64 0, .int .i64 0] 26)).heap.size := by simp
  have HC0 : Hid (Cur ((w.alloc (.cells #[.int .i64 0, .string ⟨#[]⟩, .int .i64 0, .int .i64 0, .int .i64 0, .int .i64 0, .int .i64 0, .int .i64 0] 26)).alloc (.cells #[.slice A n c, .int .i64 0, .int .u64 0] 101)) (w.heap.size + 1) A n c xs 0) := by
    unfold Hid
    rw [hz]
    exact Cur.new c (RB.later hr ((Below.refl _ w).alloc (Nat.le_refl _) (.cells #[.int .i64 0, .string ⟨#[]⟩, .int .i64 0, .int .i64 0, .int .i64 0, .int .i64 0, .int .i64 0, .int .i64 0] 26)))
  have HZ0 := hide ((Whl.here w 26 #[.int .i64 0, .string ⟨#[]⟩, .int .i64 0, .int .i64 0, .int .i64 0, .int .i64 0, .int .i64 0, .int .i64 0]).alloc (.cells #[.slice A n c, .int .i64 0, .int .u64 0] 101))
  have HBA := hide (((Below.refl _ w).alloc (Nat.le_refl _) (.cells #[.int .i64 0, .string ⟨#[]⟩, .int .i64 0, .int .i64 0, .int .i64 0, .int .i64 0, .int .i64 0, .int .i64 0] 26)).alloc (by simp) (.cells #[.slice A n c, .int .i64 0, .int .u64 0] 101))
  clear hr hz
  have HQ0 : Hid (w.heap.size + 1 + 1 = ((w.alloc (.cells #[.int .i64 0, .string ⟨#[]⟩, .int .i64 0, .int .i64 0, .int .i64 0, .int .i64 0, .int .i64 0, .int .i64 0] 26)).alloc (.cells #[.slice A n c, .int .i64 0, .int .u64 0] 101)).heap.size) := by unfold Hid; simp
  go_enter Try.func61, Try.ntmps61
  go_wp2_with fail
  generalize (w.alloc (.cells #[.int .i64 0, .string ⟨#[]⟩, .int .i64 0, .int .i64 0, .int .i64 0, .int .i64 0, .int .i64 0, .int .i64 0] 26)).alloc (.cells #[.slice A n c, .int .i64 0, .int .u64 0] 101) = w0 at *
  have hgA := (unhide HC0).lt
  have HG0 := hide (World.grownBy.refl w0 (some (w.heap.size + 1)))
  refine (among_lit (w.heap.size + 1) n c 0 _ A xs w0 (unhide HQ0) [1, 42, 99] 3 _ (fun _ => True) rfl rfl (by omega) (by omega) (by simp) (unhide HC0) (by omega) (by omega)).mono ?_
  rintro e w1 ⟨v, rfl, _, hC, hgr⟩
  have HC1 := hide hC
  have HG1 := hide (grownBy_trans (unhide HG0) hgr)
  have HZ1 := hide ((unhide HZ0).gr hgr (by omega))
  clear hC hgr HC0 HG0 HZ0
  go_wp2_with fail
  refine (station_any (w.heap.size + 1) n c _ A xs v w1 (unhide HC1) (by omega) (by omega)).mono ?_
  rintro e w2 ⟨s, rfl, hs, hC, hgr⟩
  have HG2 := hide (grownBy_trans (unhide HG1) hgr)
  have HZ2 := hide ((unhide HZ1).gr hgr (by omega))
  clear hC hgr HC1 HG1 HZ1
  have m0 : w2.cell? ⟨w.heap.size, 0, none⟩ = some (.int .i64 0) := (unhide HZ2).cell 0
  have n0 : w2.frozen? ⟨w.heap.size, 0, none⟩ = false := (unhide HZ2).frozen 0
  have m1 : w2.cell? ⟨w.heap.size, 1, none⟩ = some (.string ⟨#[]⟩) := (unhide HZ2).cell 1
  have n1 : w2.frozen? ⟨w.heap.size, 1, none⟩ = false := (unhide HZ2).frozen 1
  have m2 : w2.cell? ⟨w.heap.size, 2, none⟩ = some (.int .i64 0) := (unhide HZ2).cell 2
  have n2 : w2.frozen? ⟨w.heap.size, 2, none⟩ = false := (unhide HZ2).frozen 2
  have m3 : w2.cell? ⟨w.heap.size, 3, none⟩ = some (.int .i64 0) := (unhide HZ2).cell 3
  have n3 : w2.frozen? ⟨w.heap.size, 3, none⟩ = false := (unhide HZ2).frozen 3
  have m4 : w2.cell? ⟨w.heap.size, 4, none⟩ = some (.int .i64 0) := (unhide HZ2).cell 4
  have n4 : w2.frozen? ⟨w.heap.size, 4, none⟩ = false := (unhide HZ2).frozen 4
  have m5 : w2.cell? ⟨w.heap.size, 5, none⟩ = some (.int .i64 0) := (unhide HZ2).cell 5
  have n5 : w2.frozen? ⟨w.heap.size, 5, none⟩ = false := (unhide HZ2).frozen 5
  have m6 : w2.cell? ⟨w.heap.size, 6, none⟩ = some (.int .i64 0) := (unhide HZ2).cell 6
  have n6 : w2.frozen? ⟨w.heap.size, 6, none⟩ = false := (unhide HZ2).frozen 6
  have m7 : w2.cell? ⟨w.heap.size, 7, none⟩ = some (.int .i64 0) := (unhide HZ2).cell 7
  have n7 : w2.frozen? ⟨w.heap.size, 7, none⟩ = false := (unhide HZ2).frozen 7
  go_wp2_with fail
  clear m0 n0 m1 n1 m2 n2 m3 n3 m4 n4 m5 n5 m6 n6 m7 n7
  have HY : Hid (Whl ((((((((w2.setCell ⟨w.heap.size, 0, none⟩ (.int .i64 s.id)).setCell ⟨w.heap.size, 1, none⟩ (.string s.nm)).setCell ⟨w.heap.size, 2, none⟩ (.int .i64 s.x)).setCell ⟨w.heap.size, 3, none⟩ (.int .i64 s.y)).setCell ⟨w.heap.size, 4, none⟩ (.int .i64 s.gn)).setCell ⟨w.heap.size, 5, none⟩ (.int .i64 s.lw)).setCell ⟨w.heap.size, 6, none⟩ (.int .i64 s.hg)).setCell ⟨w.heap.size, 7, none⟩ (.int .i64 s.ut)) w.heap.size 26 #[.int .i64 s.id, .string s.nm, .int .i64 s.x, .int .i64 s.y, .int .i64 s.gn, .int .i64 s.lw, .int .i64 s.hg, .int .i64 s.ut]) := hide ((unhide HZ2).store8 _ _ _ _ _ _ _ _)
  have HYB : Hid (Below w.heap.size w ((((((((w2.setCell ⟨w.heap.size, 0, none⟩ (.int .i64 s.id)).setCell ⟨w.heap.size, 1, none⟩ (.string s.nm)).setCell ⟨w.heap.size, 2, none⟩ (.int .i64 s.x)).setCell ⟨w.heap.size, 3, none⟩ (.int .i64 s.y)).setCell ⟨w.heap.size, 4, none⟩ (.int .i64 s.gn)).setCell ⟨w.heap.size, 5, none⟩ (.int .i64 s.lw)).setCell ⟨w.heap.size, 6, none⟩ (.int .i64 s.hg)).setCell ⟨w.heap.size, 7, none⟩ (.int .i64 s.ut))) := hide (Below.setCell (Below.setCell (Below.setCell (Below.setCell (Below.setCell (Below.setCell (Below.setCell (Below.setCell (below_cur (unhide HBA) (unhide HG2) (by omega)) (p := ⟨w.heap.size, 0, none⟩) (Nat.le_refl _) _) (p := ⟨w.heap.size, 1, none⟩) (Nat.le_refl _) _) (p := ⟨w.heap.size, 2, none⟩) (Nat.le_refl _) _) (p := ⟨w.heap.size, 3, none⟩) (Nat.le_refl _) _) (p := ⟨w.heap.size, 4, none⟩) (Nat.le_refl _) _) (p := ⟨w.heap.size, 5, none⟩) (Nat.le_refl _) _) (p := ⟨w.heap.size, 6, none⟩) (Nat.le_refl _) _) (p := ⟨w.heap.size, 7, none⟩) (Nat.le_refl _) _)
  clear HZ2 HG2
  generalize ((((((((w2.setCell ⟨w.heap.size, 0, none⟩ (.int .i64 s.id)).setCell ⟨w.heap.size, 1, none⟩ (.string s.nm)).setCell ⟨w.heap.size, 2, none⟩ (.int .i64 s.x)).setCell ⟨w.heap.size, 3, none⟩ (.int .i64 s.y)).setCell ⟨w.heap.size, 4, none⟩ (.int .i64 s.gn)).setCell ⟨w.heap.size, 5, none⟩ (.int .i64 s.lw)).setCell ⟨w.heap.size, 6, none⟩ (.int .i64 s.hg)).setCell ⟨w.heap.size, 7, none⟩ (.int .i64 s.ut)) = wz at *
  have y0 : wz.cell? ⟨w.heap.size, 0, none⟩ = some (.int .i64 s.id) := (unhide HY).cell 0
  have y1 : wz.cell? ⟨w.heap.size, 1, none⟩ = some (.string s.nm) := (unhide HY).cell 1
  have y2 : wz.cell? ⟨w.heap.size, 2, none⟩ = some (.int .i64 s.x) := (unhide HY).cell 2
  have y3 : wz.cell? ⟨w.heap.size, 3, none⟩ = some (.int .i64 s.y) := (unhide HY).cell 3
  have y4 : wz.cell? ⟨w.heap.size, 4, none⟩ = some (.int .i64 s.gn) := (unhide HY).cell 4
  have y5 : wz.cell? ⟨w.heap.size, 5, none⟩ = some (.int .i64 s.lw) := (unhide HY).cell 5
  have y6 : wz.cell? ⟨w.heap.size, 6, none⟩ = some (.int .i64 s.hg) := (unhide HY).cell 6
  have y7 : wz.cell? ⟨w.heap.size, 7, none⟩ = some (.int .i64 s.ut) := (unhide HY).cell 7
  have x0 : wz.frozen? ⟨w.heap.size, 0, none⟩ = false := (unhide HY).frozen 0
  have x1 : wz.frozen? ⟨w.heap.size, 1, none⟩ = false := (unhide HY).frozen 1
  have x2 : wz.frozen? ⟨w.heap.size, 2, none⟩ = false := (unhide HY).frozen 2
  have x3 : wz.frozen? ⟨w.heap.size, 3, none⟩ = false := (unhide HY).frozen 3
  have x4 : wz.frozen? ⟨w.heap.size, 4, none⟩ = false := (unhide HY).frozen 4
  have x5 : wz.frozen? ⟨w.heap.size, 5, none⟩ = false := (unhide HY).frozen 5
  have x6 : wz.frozen? ⟨w.heap.size, 6, none⟩ = false := (unhide HY).frozen 6
  have x7 : wz.frozen? ⟨w.heap.size, 7, none⟩ = false := (unhide HY).frozen 7
  go_wp2_with fail
  refine bodyPost_ret (v := .agg #[.int .i64 s.id, .string s.nm, .int .i64 s.x, .int .i64 s.y, .int .i64 s.gn, .int .i64 s.lw, .int .i64 s.hg, .int .i64 s.ut]) (by simp [results, Try.results61, go_sem, y0, x0, y1, x1, y2, x2, y3, x3, y4, x4, y5, x5, y6, x6, y7, x7]) rfl ?_
  exact ⟨s, rfl, hs, unhide HYB⟩

set_option maxHeartbeats 16000000 in
set_option maxRecDepth 100000 in
theorem drawSpeedOf_any (A : Option Addr) (n c : Nat) (xs : List Int) (w : World) (hr : RB w w.heap.size A n xs) (hn : n ≤ 65536) :
    Calls Try.prog 52 #[.slice A n c] w (RetDS1 w) := by
  have hz : w.heap.size + 1 = (w.alloc (.cells #[.int .i64 0, .string ⟨#[]⟩, .int .i64 0, .int .i64 0, .int .i64 0, .int .i64 0, .int .i64 0, .int .i64 0] 26)).heap.size := by simp
  have HC0 : Hid (Cur ((w.alloc (.cells #[.int .i64 0, .string ⟨#[]⟩, .int .i64 0, .int .i64 0, .int .i64 0, .int .i64 0, .int .i64 0, .int .i64 0] 26)).alloc (.cells #[.slice A n c, .int .i64 0, .int .u64 0] 101)) (w.heap.size + 1) A n c xs 0) := by
    unfold Hid
    rw [hz]
    exact Cur.new c (RB.later hr ((Below.refl _ w).alloc (Nat.le_refl _) (.cells #[.int .i64 0, .string ⟨#[]⟩, .int .i64 0, .int .i64 0, .int .i64 0, .int .i64 0, .int .i64 0, .int .i64 0] 26)))
  have HZ0 := hide ((Whl.here w 26 #[.int .i64 0, .string ⟨#[]⟩, .int .i64 0, .int .i64 0, .int .i64 0, .int .i64 0, .int .i64 0, .int .i64 0]).alloc (.cells #[.slice A n c, .int .i64 0, .int .u64 0] 101))
  have HBA := hide (((Below.refl _ w).alloc (Nat.le_refl _) (.cells #[.int .i64 0, .string ⟨#[]⟩, .int .i64 0, .int .i64 0, .int .i64 0, .int .i64 0, .int .i64 0, .int .i64 0] 26)).alloc (by simp) (.cells #[.slice A n c, .int .i64 0, .int .u64 0] 101))
  clear hr hz
  have HQ0 : Hid (w.heap.size + 1 + 1 = ((w.alloc (.cells #[.int .i64 0, .string ⟨#[]⟩, .int .i64 0, .int .i64 0, .int .i64 0, .int .i64 0, .int .i64 0, .int .i64 0] 26)).alloc (.cells #[.slice A n c, .int .i64 0, .int .u64 0] 101)).heap.size) := by unfold Hid; simp
  go_enter Try.func52, Try.ntmps52
  go_wp2_with fail
  generalize (w.alloc (.cells #[.int .i64 0, .string ⟨#[]⟩, .int .i64 0, .int .i64 0, .int .i64 0, .int .i64 0, .int .i64 0, .int .i64 0] 26)).alloc (.cells #[.slice A n c, .int .i64 0, .int .u64 0] 101) = w0 at *
  have hgA := (unhide HC0).lt
  have HG0 := hide (World.grownBy.refl w0 (some (w.heap.size + 1)))
  refine (station_any (w.heap.size + 1) n c 0 A xs 5 w0 (unhide HC0) (by omega) (by omega)).mono ?_
  rintro e w1 ⟨s, rfl, hs, hC, hgr⟩
  have HG1 := hide (grownBy_trans (unhide HG0) hgr)
  have HZ1 := hide ((unhide HZ0).gr hgr (by omega))
  have HC1 := hide hC
  clear hC hgr HC0 HG0 HZ0
  have HK2 := hide (Whl.here w1 26 #[.int .i64 s.id, .string s.nm, .int .i64 s.x, .int .i64 s.y, .int .i64 s.gn, .int .i64 s.lw, .int .i64 s.hg, .int .i64 s.ut])
  have HG2 := hide (grown_alloc (unhide HG1) (.cells #[.int .i64 s.id, .string s.nm, .int .i64 s.x, .int .i64 s.y, .int .i64 s.gn, .int .i64 s.lw, .int .i64 s.hg, .int .i64 s.ut] 26))
  have HZ2 := hide ((unhide HZ1).alloc (.cells #[.int .i64 s.id, .string s.nm, .int .i64 s.x, .int .i64 s.y, .int .i64 s.gn, .int .i64 s.lw, .int .i64 s.hg, .int .i64 s.ut] 26))
  have HC2 := hide ((unhide HC1).alloc (.cells #[.int .i64 s.id, .string s.nm, .int .i64 s.x, .int .i64 s.y, .int .i64 s.gn, .int .i64 s.lw, .int .i64 s.hg, .int .i64 s.ut] 26))
  have hne1 : w.heap.size + 1 ≠ w1.heap.size := (new_ne_cur (unhide HC1)).symm
  have hne2 : w.heap.size + 1 ≠ w.heap.size := by omega
  have hne3 : w1.heap.size ≠ w.heap.size := by have := (unhide HZ1).lt; omega
  clear HC1 HG1 HZ1
  go_wp2_with fail
  generalize w1.heap.size = gm at *
  generalize w1.alloc (.cells #[.int .i64 s.id, .string s.nm, .int .i64 s.x, .int .i64 s.y, .int .i64 s.gn, .int .i64 s.lw, .int .i64 s.hg, .int .i64 s.ut] 26) = w2 at *
  have hgw : w.heap.size + 1 ≠ w2.heap.size := (new_ne_cur (unhide HC2)).symm
  have hn2 : n ≤ 1048576 := by omega
  have k0 : w2.cell? ⟨gm, 0, none⟩ = some (.int .i64 s.id) := (unhide HK2).cell 0
  have k1 : w2.cell? ⟨gm, 1, none⟩ = some (.string s.nm) := (unhide HK2).cell 1
  have k2 : w2.cell? ⟨gm, 2, none⟩ = some (.int .i64 s.x) := (unhide HK2).cell 2
  have k3 : w2.cell? ⟨gm, 3, none⟩ = some (.int .i64 s.y) := (unhide HK2).cell 3
  have k4 : w2.cell? ⟨gm, 4, none⟩ = some (.int .i64 s.gn) := (unhide HK2).cell 4
  have k5 : w2.cell? ⟨gm, 5, none⟩ = some (.int .i64 s.lw) := (unhide HK2).cell 5
  have k6 : w2.cell? ⟨gm, 6, none⟩ = some (.int .i64 s.hg) := (unhide HK2).cell 6
  have k7 : w2.cell? ⟨gm, 7, none⟩ = some (.int .i64 s.ut) := (unhide HK2).cell 7
  go_region_held3 (fun w' => w'.cell? ⟨gm, 0, none⟩ = some (.int .i64 s.id) ∧ w'.cell? ⟨gm, 1, none⟩ = some (.string s.nm) ∧ w'.cell? ⟨gm, 2, none⟩ = some (.int .i64 s.x) ∧ w'.cell? ⟨gm, 3, none⟩ = some (.int .i64 s.y) ∧ w'.cell? ⟨gm, 4, none⟩ = some (.int .i64 s.gn) ∧ w'.cell? ⟨gm, 5, none⟩ = some (.int .i64 s.lw) ∧ w'.cell? ⟨gm, 6, none⟩ = some (.int .i64 s.hg) ∧ w'.cell? ⟨gm, 7, none⟩ = some (.int .i64 s.ut))
    (((with_reducible refine eight_cells (T := 26) ?_); (repeat (first | with_reducible exact unhide HK4 | with_reducible exact unhide HK3 | with_reducible exact unhide HK2 | with_reducible refine Whl.alloc ?_ _ | with_reducible refine Whl.drew ?_ | refine Whl.far ?_ hne3 _))))
    (first
      | (go_at_call 106; refine (pick_any (w.heap.size + 1) n c (0 + 24) A xs 24 _ ?_ hn2 ?_ ?_ ?_).mono ?_; (repeat (first | with_reducible exact unhide HC2 | with_reducible refine Cur.drew ?_ | with_reducible refine Cur.alloc ?_ _)); omega; omega; omega; rintro e wy ⟨y, rfl, ⟨y0, y1⟩, hC, hg⟩; have HC3 := hide hC; have HG3 : Hid (w0.grownBy wy (some (w.heap.size + 1))) := hide (grownBy_trans (by (repeat (first | with_reducible exact unhide HG2 | with_reducible refine grown_dr ?_ | with_reducible refine grown_alloc ?_ _))) hg); have HK3 : Hid (Whl wy gm 26 #[.int .i64 s.id, .string s.nm, .int .i64 s.x, .int .i64 s.y, .int .i64 s.gn, .int .i64 s.lw, .int .i64 s.hg, .int .i64 s.ut]) := hide (Whl.gr (by (repeat (first | with_reducible exact unhide HK2 | with_reducible refine Whl.drew ?_ | with_reducible refine Whl.alloc ?_ _))) hg hne1); have HZ3 : Hid (Whl wy w.heap.size 26 #[.int .i64 0, .string ⟨#[]⟩, .int .i64 0, .int .i64 0, .int .i64 0, .int .i64 0, .int .i64 0, .int .i64 0]) := hide (Whl.gr (by (repeat (first | with_reducible exact unhide HZ2 | with_reducible refine Whl.drew ?_ | with_reducible refine Whl.alloc ?_ _))) hg hne2); clear hC; obtain ⟨z, hh, z1, z2, z3, z4, z5, z6⟩ := quo11 5 7 (by decide) (by decide) rfl y0 y1; have z8 : (hh : Int) ≤ 7 := z4; (first | (have HL3 : Hid (Whl wy w2.heap.size 3 (cI [0, 9, -9, 100000, -100000, 100001, -100001]).toArray) := hide (Whl.gr (Whl.drew (Whl.here w2 _ _)) hg hgw)) | (have HL3 : Hid (Whl wy w2.heap.size 3 (cI [0, 9, -9, 100000, -100000, 100001, -100001]).toArray) := hide (Whl.gr (Whl.here w2 _ _) hg hgw)) | skip); clear hg)
      | (go_at_call 105; refine (among_some (w.heap.size + 1) n c (0 + 24 + 2) _ A xs _ [0, 9, -9, 100000, -100000, 100001, -100001] hh 7 ?_ ?_ z6 z5 ?_ ?_ hn2 ?_).mono ?_; (first | exact unhide HL3 | exact Whl.drew (unhide HL3) | ((repeat (with_reducible refine Whl.drew ?_)); (exact Whl.here _ _ _))); (first | exact hgw.symm | exact new_ne_cur (unhide HC3)); (simp); (repeat (first | with_reducible exact unhide HC3 | with_reducible refine Cur.drew ?_ | with_reducible refine Cur.alloc ?_ _)); omega; rintro e wv ⟨v, rfl, _, hC, hg⟩; have HG4 : Hid (w0.grownBy wv (some (w.heap.size + 1))) := hide (grownBy_trans (by (repeat (first | with_reducible exact unhide HG3 | with_reducible refine grown_dr ?_ | with_reducible refine grown_alloc ?_ _))) hg); have HK4 : Hid (Whl wv gm 26 #[.int .i64 s.id, .string s.nm, .int .i64 s.x, .int .i64 s.y, .int .i64 s.gn, .int .i64 s.lw, .int .i64 s.hg, .int .i64 s.ut]) := hide (Whl.gr (by (repeat (first | with_reducible exact unhide HK3 | with_reducible refine Whl.drew ?_ | with_reducible refine Whl.alloc ?_ _))) hg hne1); have HZ4 : Hid (Whl wv w.heap.size 26 #[.int .i64 0, .string ⟨#[]⟩, .int .i64 0, .int .i64 0, .int .i64 0, .int .i64 0, .int .i64 0, .int .i64 0]) := hide (Whl.gr (by (repeat (first | with_reducible exact unhide HZ3 | with_reducible refine Whl.drew ?_ | with_reducible refine Whl.alloc ?_ _))) hg hne2); clear hC hg; have m0 : wv.cell? ⟨w.heap.size, 0, none⟩ = some (.int .i64 0) := (unhide HZ4).cell 0; have n0 : wv.frozen? ⟨w.heap.size, 0, none⟩ = false := (unhide HZ4).frozen 0; have m1 : wv.cell? ⟨w.heap.size, 1, none⟩ = some (.string ⟨#[]⟩) := (unhide HZ4).cell 1; have n1 : wv.frozen? ⟨w.heap.size, 1, none⟩ = false := (unhide HZ4).frozen 1; have m2 : wv.cell? ⟨w.heap.size, 2, none⟩ = some (.int .i64 0) := (unhide HZ4).cell 2; have n2 : wv.frozen? ⟨w.heap.size, 2, none⟩ = false := (unhide HZ4).frozen 2; have m3 : wv.cell? ⟨w.heap.size, 3, none⟩ = some (.int .i64 0) := (unhide HZ4).cell 3; have n3 : wv.frozen? ⟨w.heap.size, 3, none⟩ = false := (unhide HZ4).frozen 3; have m4 : wv.cell? ⟨w.heap.size, 4, none⟩ = some (.int .i64 0) := (unhide HZ4).cell 4; have n4 : wv.frozen? ⟨w.heap.size, 4, none⟩ = false := (unhide HZ4).frozen 4; have m5 : wv.cell? ⟨w.heap.size, 5, none⟩ = some (.int .i64 0) := (unhide HZ4).cell 5; have n5 : wv.frozen? ⟨w.heap.size, 5, none⟩ = false := (unhide HZ4).frozen 5; have m6 : wv.cell? ⟨w.heap.size, 6, none⟩ = some (.int .i64 0) := (unhide HZ4).cell 6; have n6 : wv.frozen? ⟨w.heap.size, 6, none⟩ = false := (unhide HZ4).frozen 6; have m7 : wv.cell? ⟨w.heap.size, 7, none⟩ = some (.int .i64 0) := (unhide HZ4).cell 7; have n7 : wv.frozen? ⟨w.heap.size, 7, none⟩ = false := (unhide HZ4).frozen 7))
  all_goals
    clear m0 n0 m1 n1 m2 n2 m3 n3 m4 n4 m5 n5 m6 n6 m7 n7 k0 k1 k2 k3 k4 k5 k6 k7
    have HY : Hid (Whl ((((((((wv.setCell ⟨w.heap.size, 0, none⟩ (.int .i64 s.id)).setCell ⟨w.heap.size, 1, none⟩ (.string s.nm)).setCell ⟨w.heap.size, 2, none⟩ (.int .i64 s.x)).setCell ⟨w.heap.size, 3, none⟩ (.int .i64 s.y)).setCell ⟨w.heap.size, 4, none⟩ (.int .i64 s.gn)).setCell ⟨w.heap.size, 5, none⟩ (.int .i64 s.lw)).setCell ⟨w.heap.size, 6, none⟩ (.int .i64 s.hg)).setCell ⟨w.heap.size, 7, none⟩ (.int .i64 s.ut)) w.heap.size 26 #[.int .i64 s.id, .string s.nm, .int .i64 s.x, .int .i64 s.y, .int .i64 s.gn, .int .i64 s.lw, .int .i64 s.hg, .int .i64 s.ut]) := hide ((unhide HZ4).store8 _ _ _ _ _ _ _ _)
    have HYB : Hid (Below w.heap.size w ((((((((wv.setCell ⟨w.heap.size, 0, none⟩ (.int .i64 s.id)).setCell ⟨w.heap.size, 1, none⟩ (.string s.nm)).setCell ⟨w.heap.size, 2, none⟩ (.int .i64 s.x)).setCell ⟨w.heap.size, 3, none⟩ (.int .i64 s.y)).setCell ⟨w.heap.size, 4, none⟩ (.int .i64 s.gn)).setCell ⟨w.heap.size, 5, none⟩ (.int .i64 s.lw)).setCell ⟨w.heap.size, 6, none⟩ (.int .i64 s.hg)).setCell ⟨w.heap.size, 7, none⟩ (.int .i64 s.ut))) := hide (Below.setCell (Below.setCell (Below.setCell (Below.setCell (Below.setCell (Below.setCell (Below.setCell (Below.setCell (below_cur (unhide HBA) (unhide HG4) (by omega)) (p := ⟨w.heap.size, 0, none⟩) (Nat.le_refl _) _) (p := ⟨w.heap.size, 1, none⟩) (Nat.le_refl _) _) (p := ⟨w.heap.size, 2, none⟩) (Nat.le_refl _) _) (p := ⟨w.heap.size, 3, none⟩) (Nat.le_refl _) _) (p := ⟨w.heap.size, 4, none⟩) (Nat.le_refl _) _) (p := ⟨w.heap.size, 5, none⟩) (Nat.le_refl _) _) (p := ⟨w.heap.size, 6, none⟩) (Nat.le_refl _) _) (p := ⟨w.heap.size, 7, none⟩) (Nat.le_refl _) _)
    clear HZ4 HG4
    generalize ((((((((wv.setCell ⟨w.heap.size, 0, none⟩ (.int .i64 s.id)).setCell ⟨w.heap.size, 1, none⟩ (.string s.nm)).setCell ⟨w.heap.size, 2, none⟩ (.int .i64 s.x)).setCell ⟨w.heap.size, 3, none⟩ (.int .i64 s.y)).setCell ⟨w.heap.size, 4, none⟩ (.int .i64 s.gn)).setCell ⟨w.heap.size, 5, none⟩ (.int .i64 s.lw)).setCell ⟨w.heap.size, 6, none⟩ (.int .i64 s.hg)).setCell ⟨w.heap.size, 7, none⟩ (.int .i64 s.ut)) = wz at *
    have y0 : wz.cell? ⟨w.heap.size, 0, none⟩ = some (.int .i64 s.id) := (unhide HY).cell 0
    have y1 : wz.cell? ⟨w.heap.size, 1, none⟩ = some (.string s.nm) := (unhide HY).cell 1
    have y2 : wz.cell? ⟨w.heap.size, 2, none⟩ = some (.int .i64 s.x) := (unhide HY).cell 2
    have y3 : wz.cell? ⟨w.heap.size, 3, none⟩ = some (.int .i64 s.y) := (unhide HY).cell 3
    have y4 : wz.cell? ⟨w.heap.size, 4, none⟩ = some (.int .i64 s.gn) := (unhide HY).cell 4
    have y5 : wz.cell? ⟨w.heap.size, 5, none⟩ = some (.int .i64 s.lw) := (unhide HY).cell 5
    have y6 : wz.cell? ⟨w.heap.size, 6, none⟩ = some (.int .i64 s.hg) := (unhide HY).cell 6
    have y7 : wz.cell? ⟨w.heap.size, 7, none⟩ = some (.int .i64 s.ut) := (unhide HY).cell 7
    have x0 : wz.frozen? ⟨w.heap.size, 0, none⟩ = false := (unhide HY).frozen 0
    have x1 : wz.frozen? ⟨w.heap.size, 1, none⟩ = false := (unhide HY).frozen 1
    have x2 : wz.frozen? ⟨w.heap.size, 2, none⟩ = false := (unhide HY).frozen 2
    have x3 : wz.frozen? ⟨w.heap.size, 3, none⟩ = false := (unhide HY).frozen 3
    have x4 : wz.frozen? ⟨w.heap.size, 4, none⟩ = false := (unhide HY).frozen 4
    have x5 : wz.frozen? ⟨w.heap.size, 5, none⟩ = false := (unhide HY).frozen 5
    have x6 : wz.frozen? ⟨w.heap.size, 6, none⟩ = false := (unhide HY).frozen 6
    have x7 : wz.frozen? ⟨w.heap.size, 7, none⟩ = false := (unhide HY).frozen 7
    go_wp2_with fail
    refine bodyPost_ret (v := .tuple #[.agg #[.int .i64 s.id, .string s.nm, .int .i64 s.x, .int .i64 s.y, .int .i64 s.gn, .int .i64 s.lw, .int .i64 s.hg, .int .i64 s.ut], .int .i64 v]) (by simp [results, Try.results52, go_sem, y0, x0, y1, x1, y2, x2, y3, x3, y4, x4, y5, x5, y6, x6, y7, x7]) rfl ?_
    exact ⟨s, v, rfl, hs, unhide HYB⟩
end Go.Proofs.Ytihkocplgciifaa
