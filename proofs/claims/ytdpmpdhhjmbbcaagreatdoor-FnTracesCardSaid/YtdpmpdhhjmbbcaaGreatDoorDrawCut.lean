/- Chapter 2, the walks: a trace and two ticks that the reference draws. (Turned from XDrawTk.) -/
import Derived.Test.YtdpmpdhhjmbbcaaGreatDoorProg
import Derived.Test.YtdpmpdhhjmbbcaaGreatDoorDrawTk
namespace Go.Proofs.YtdpmpdhhjmbbcaaGreatDoor
open Go.RowKit

/-- a trace and two numbers are drawn -/
def RetDT2 (w : World) (e : Ending) (w' : World) : Prop :=
  ∃ (st sa : Int) (A' : Option Addr) (n' c' : Nat) (ys : List Int) (x y : Int), e = .returned (.tuple #[.agg #[.int .i64 st, .int .i64 sa, .slice A' n' c'], .int .i64 x, .int .i64 y]) ∧ OwnI w' w.heap.size A' n' c' ys ∧ n' ≤ 26 ∧ (∀ y ∈ ys, -400000 ≤ y ∧ y ≤ 400000) ∧ Below w.heap.size w w'
set_option maxHeartbeats 4000000 in
set_option maxRecDepth 100000 in
theorem drawCutTrace_any (A : Option Addr) (n c : Nat) (xs : List Int) (w : World) (hr : RB w w.heap.size A n xs) (hn : n ≤ 65536) :
    Calls Tryz.prog 15 #[.slice A n c] w (RetDT2 w) := by
  have hz : w.heap.size + 1 = (w.alloc (.cells #[.int .i64 0, .int .i64 0, .slice none 0 0] 26)).heap.size := by simp
  have HC0 : Hid (Cur ((w.alloc (.cells #[.int .i64 0, .int .i64 0, .slice none 0 0] 26)).alloc (.cells #[.slice A n c, .int .i64 0, .int .u64 0] 58)) (w.heap.size + 1) A n c xs 0) := by
    unfold Hid
    rw [hz]
    exact Cur.new c (RB.later hr ((Below.refl _ w).alloc (Nat.le_refl _) (.cells #[.int .i64 0, .int .i64 0, .slice none 0 0] 26)))
  have HZ0 := hide ((Whl.here w 26 #[.int .i64 0, .int .i64 0, .slice none 0 0]).alloc (.cells #[.slice A n c, .int .i64 0, .int .u64 0] 58))
  have HBA := hide (((Below.refl _ w).alloc (Nat.le_refl _) (.cells #[.int .i64 0, .int .i64 0, .slice none 0 0] 26)).alloc (by simp) (.cells #[.slice A n c, .int .i64 0, .int .u64 0] 58))
  clear hr hz
  go_enter Tryz.func15, Tryz.ntmps15
  go_wp2_with fail
  generalize (w.alloc (.cells #[.int .i64 0, .int .i64 0, .slice none 0 0] 26)).alloc (.cells #[.slice A n c, .int .i64 0, .int .u64 0] 58) = w0 at *
  have hgA := (unhide HC0).lt
  have HG0 := hide (World.grownBy.refl w0 (some (w.heap.size + 1)))
  refine (trace_any (w.heap.size + 1) n c 0 A xs w0 (unhide HC0) (by omega) (by omega)).mono ?_
  rintro e w1 ⟨st, sa, A', n', c', ys, rfl, hO, hn', hys, hC, hgr⟩
  have HG1 := hide (grownBy_trans (unhide HG0) hgr)
  have HZ1 := hide ((unhide HZ0).gr hgr (by omega))
  have HC1 := hide hC
  have HO1 := hide (OwnI.less hO (lo' := w.heap.size + 2) (by omega))
  have HYS := hide hys
  clear hC hgr hO hys HC0 HG0 HZ0
  have HK2 := hide (Whl.here w1 26 #[.int .i64 st, .int .i64 sa, .slice A' n' c'])
  have HG2 := hide (grown_alloc (unhide HG1) (.cells #[.int .i64 st, .int .i64 sa, .slice A' n' c'] 26))
  have HZ2 := hide ((unhide HZ1).alloc (.cells #[.int .i64 st, .int .i64 sa, .slice A' n' c'] 26))
  have HC2 := hide ((unhide HC1).alloc (.cells #[.int .i64 st, .int .i64 sa, .slice A' n' c'] 26))
  have HO2 := hide ((unhide HO1).alloc (.cells #[.int .i64 st, .int .i64 sa, .slice A' n' c'] 26))
  have hne1 : w.heap.size + 1 ≠ w1.heap.size := (new_ne_cur (unhide HC1)).symm
  have hne2 : w.heap.size + 1 ≠ w.heap.size := by omega
  have hne3 : w1.heap.size ≠ w.heap.size := by have := (unhide HZ1).lt; omega
  have hlt9 : w.heap.size + 1 < w.heap.size + 2 := by omega
  clear HC1 HG1 HZ1 HO1
  go_wp2_with fail
  generalize w1.heap.size = gm at *
  generalize w1.alloc (.cells #[.int .i64 st, .int .i64 sa, .slice A' n' c'] 26) = w2 at *
  have hn2 : n ≤ 1048576 := by omega
  have k0 : w2.cell? ⟨gm, 0, none⟩ = some (.int .i64 st) := (unhide HK2).cell 0
  have k1 : w2.cell? ⟨gm, 1, none⟩ = some (.int .i64 sa) := (unhide HK2).cell 1
  have k2 : w2.cell? ⟨gm, 2, none⟩ = some (.slice A' n' c') := (unhide HK2).cell 2
  go_wp2_with fail
  refine (tickIn_any (w.heap.size + 1) n c (0 + 220) A xs st sa A' n' c' w2 (unhide HC2) hn2 (by omega) hn').mono ?_
  rintro e wt ⟨fr, rfl, _, hC, hg⟩
  have HGt := hide (grownBy_trans (unhide HG2) hg)
  have HKt := hide ((unhide HK2).gr hg hne1)
  have HZt := hide ((unhide HZ2).gr hg hne2)
  have HOt := hide ((unhide HO2).gr hg hlt9)
  have HCt := hide hC
  clear hC hg k0 k1 k2 HG2 HK2 HZ2 HO2 HC2
  have k0 : wt.cell? ⟨gm, 0, none⟩ = some (.int .i64 st) := (unhide HKt).cell 0
  have k1 : wt.cell? ⟨gm, 1, none⟩ = some (.int .i64 sa) := (unhide HKt).cell 1
  have k2 : wt.cell? ⟨gm, 2, none⟩ = some (.slice A' n' c') := (unhide HKt).cell 2
  have HB1 : 0 + 220 + 4 + 2 ≤ 4611686018427387900 := by omega
  have HB2 : 0 + 220 + 4 ≤ 4611686018427387900 := by omega
  have HP9 := hide (fun (W : World) (h : Cur W (w.heap.size + 1) A n c xs (0 + 220 + 4 + 2)) => pick_any (w.heap.size + 1) n c (0 + 220 + 4 + 2) A xs 9 W h hn2 HB1 (by decide) (by decide))
  have HP5 := hide (fun (W : World) (h : Cur W (w.heap.size + 1) A n c xs (0 + 220 + 4)) => pick_any (w.heap.size + 1) n c (0 + 220 + 4) A xs 5 W h hn2 HB2 (by decide) (by decide))
  go_wp2_with fail
  go_region_held3 (fun w' => w'.cell? ⟨gm, 0, none⟩ = some (.int .i64 st) ∧ w'.cell? ⟨gm, 1, none⟩ = some (.int .i64 sa) ∧ w'.cell? ⟨gm, 2, none⟩ = some (.slice A' n' c'))
    (((with_reducible refine three_cells (T := 26) ?_); (repeat (first | with_reducible exact unhide HK4 | with_reducible exact unhide HK3 | with_reducible exact unhide HKt | with_reducible refine Whl.drew ?_ | refine Whl.far ?_ hne3 _))))
    (first
      | (go_at_call 40; (with_reducible refine Calls.mono (unhide HP5 wt.drew (Cur.drew (unhide HCt))) ?_); rintro e wy ⟨y, rfl, _, hC, hg⟩; have HC3 := hide hC; have HG3 : Hid (w0.grownBy wy (some (w.heap.size + 1))) := hide (grownBy_trans (by (repeat (first | with_reducible exact unhide HGt | with_reducible refine grown_dr ?_))) hg); have HK3 : Hid (Whl wy gm 26 #[.int .i64 st, .int .i64 sa, .slice A' n' c']) := hide (Whl.gr (by (repeat (first | with_reducible exact unhide HKt | with_reducible refine Whl.drew ?_))) hg hne1); have HZ3 : Hid (Whl wy w.heap.size 26 #[.int .i64 0, .int .i64 0, .slice none 0 0]) := hide (Whl.gr (by (repeat (first | with_reducible exact unhide HZt | with_reducible refine Whl.drew ?_))) hg hne2); have HO3 : Hid (OwnI wy (w.heap.size + 2) A' n' c' ys) := hide (OwnI.gr (by (repeat (first | with_reducible exact unhide HOt | with_reducible refine OwnI.dr ?_))) hg hlt9); clear hC hg)
      | (go_at_call 40; (with_reducible refine Calls.mono (unhide HP9 wy (unhide HC3)) ?_); rintro e wv ⟨v, rfl, _, hC, hg⟩; have HG4 : Hid (w0.grownBy wv (some (w.heap.size + 1))) := hide (grownBy_trans (unhide HG3) hg); have HK4 : Hid (Whl wv gm 26 #[.int .i64 st, .int .i64 sa, .slice A' n' c']) := hide (Whl.gr (unhide HK3) hg hne1); have HZ4 : Hid (Whl wv w.heap.size 26 #[.int .i64 0, .int .i64 0, .slice none 0 0]) := hide (Whl.gr (unhide HZ3) hg hne2); have HO4 : Hid (OwnI wv (w.heap.size + 2) A' n' c' ys) := hide (OwnI.gr (unhide HO3) hg hlt9); clear hC hg; have m0 : wv.cell? ⟨w.heap.size, 0, none⟩ = some (.int .i64 0) := (unhide HZ4).cell 0; have n0 : wv.frozen? ⟨w.heap.size, 0, none⟩ = false := (unhide HZ4).frozen 0; have m1 : wv.cell? ⟨w.heap.size, 1, none⟩ = some (.int .i64 0) := (unhide HZ4).cell 1; have n1 : wv.frozen? ⟨w.heap.size, 1, none⟩ = false := (unhide HZ4).frozen 1; have m2 : wv.cell? ⟨w.heap.size, 2, none⟩ = some (.slice none 0 0) := (unhide HZ4).cell 2; have n2 : wv.frozen? ⟨w.heap.size, 2, none⟩ = false := (unhide HZ4).frozen 2))
  all_goals
    clear m0 m1 m2 n0 n1 n2 k0 k1 k2
    have HB4 := hide (below_cur (unhide HBA) (unhide HG4) (by omega))
    have hlo9 : w.heap.size < w.heap.size + 2 := by omega
    have hlo8 : w.heap.size ≤ w.heap.size + 2 := by omega
    have HY : Hid (Whl (((wv.setCell ⟨w.heap.size, 0, none⟩ (.int .i64 st)).setCell ⟨w.heap.size, 1, none⟩ (.int .i64 sa)).setCell ⟨w.heap.size, 2, none⟩ (.slice A' n' c')) w.heap.size 26 #[.int .i64 st, .int .i64 sa, .slice A' n' c']) := hide ((unhide HZ4).store3 _ _ _)
    have HYB : Hid (Below w.heap.size w (((wv.setCell ⟨w.heap.size, 0, none⟩ (.int .i64 st)).setCell ⟨w.heap.size, 1, none⟩ (.int .i64 sa)).setCell ⟨w.heap.size, 2, none⟩ (.slice A' n' c'))) := hide (Below.setCell (Below.setCell (Below.setCell (unhide HB4) (p := ⟨w.heap.size, 0, none⟩) (Nat.le_refl _) _) (p := ⟨w.heap.size, 1, none⟩) (Nat.le_refl _) _) (p := ⟨w.heap.size, 2, none⟩) (Nat.le_refl _) _)
    have HYO : Hid (OwnI (((wv.setCell ⟨w.heap.size, 0, none⟩ (.int .i64 st)).setCell ⟨w.heap.size, 1, none⟩ (.int .i64 sa)).setCell ⟨w.heap.size, 2, none⟩ (.slice A' n' c')) _ A' n' c' ys) := hide ((((unhide HO4).setB' (a := ⟨w.heap.size, 0, none⟩) hlo9 _).setB' (a := ⟨w.heap.size, 1, none⟩) hlo9 _).setB' (a := ⟨w.heap.size, 2, none⟩) hlo9 _)
    clear HZ4 HB4 HO4
    generalize (((wv.setCell ⟨w.heap.size, 0, none⟩ (.int .i64 st)).setCell ⟨w.heap.size, 1, none⟩ (.int .i64 sa)).setCell ⟨w.heap.size, 2, none⟩ (.slice A' n' c')) = wz at *
    have y0 : wz.cell? ⟨w.heap.size, 0, none⟩ = some (.int .i64 st) := (unhide HY).cell 0
    have x0 : wz.frozen? ⟨w.heap.size, 0, none⟩ = false := (unhide HY).frozen 0
    have y1 : wz.cell? ⟨w.heap.size, 1, none⟩ = some (.int .i64 sa) := (unhide HY).cell 1
    have x1 : wz.frozen? ⟨w.heap.size, 1, none⟩ = false := (unhide HY).frozen 1
    have y2 : wz.cell? ⟨w.heap.size, 2, none⟩ = some (.slice A' n' c') := (unhide HY).cell 2
    have x2 : wz.frozen? ⟨w.heap.size, 2, none⟩ = false := (unhide HY).frozen 2
    go_wp2_with fail
    refine bodyPost_ret (v := .tuple #[.agg #[.int .i64 st, .int .i64 sa, .slice A' n' c'], .int .i64 fr, .int .i64 (IntKind.i64.wrap (IntKind.i64.wrap (fr + y) - IntKind.i64.wrap (v.tdiv 8)))]) (by simp [results, Tryz.results15, go_sem, y0, y1, y2]) rfl ?_
    exact ⟨st, sa, A', n', c', ys, _, _, rfl, OwnI.less (unhide HYO) hlo8, hn', unhide HYS, unhide HYB⟩
end Go.Proofs.YtdpmpdhhjmbbcaaGreatDoor
