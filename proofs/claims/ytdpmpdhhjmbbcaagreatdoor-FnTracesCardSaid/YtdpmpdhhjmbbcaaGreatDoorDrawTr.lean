/- Chapter 2, the walks: the traces that the reference draws; samples against the same samples. (By gen_drawTr.py.) -/
import Derived.Test.YtdpmpdhhjmbbcaaGreatDoorProg
import Derived.Test.YtdpmpdhhjmbbcaaGreatDoorCurN
import Derived.Test.YtdpmpdhhjmbbcaaGreatDoorDrawS
import Derived.Test.YtdpmpdhhjmbbcaaGreatDoorTrace
import Derived.Deep.RegionHeld3
namespace Go.Proofs.YtdpmpdhhjmbbcaaGreatDoor
open Go.RowKit

/-- three stores into a block of three -/
theorem Whl.store3 {w : World} {g : Nat} {T : TypeId} {z0 z1 z2 : Value} (h : Whl w g T #[z0, z1, z2]) (v0 v1 v2 : Value) :
    Whl (((w.setCell ⟨g, 0, none⟩ v0).setCell ⟨g, 1, none⟩ v1).setCell ⟨g, 2, none⟩ v2) g T #[v0, v1, v2] := by
  have h9 := ((h.store 0 v0).store 1 v1).store 2 v2
  simpa using h9
theorem below_nx {w w1 w2 : World} (h : Below w.heap.size w w1) (hb : Below w1.heap.size w1 w2) : Below w.heap.size w w2 := h.trans (hb.mono h.size)
theorem three_cells {w' : World} {g : Nat} {T : TypeId} {a b d : Value} (h : Whl w' g T #[a, b, d]) : w'.cell? ⟨g, 0, none⟩ = some a ∧ w'.cell? ⟨g, 1, none⟩ = some b ∧ w'.cell? ⟨g, 2, none⟩ = some d := ⟨h.cell 0, h.cell 1, h.cell 2⟩
theorem OwnI.setB' {w : World} {lo n c : Nat} {A : Option Addr} {xs : List Int} (h : OwnI w lo A n c xs) {a : Addr} (ha : a.block < lo) (u : Value) : OwnI (w.setCell a u) lo A n c xs := ownsRow_setCell_below h ha u
/-- a trace comes back and the cursor -/
def RetCR (w : World) (g : Nat) (A : Option Addr) (n c : Nat) (xs : List Int) (b : Nat) (e : Ending) (w' : World) : Prop :=
  ∃ (st sa : Int) (A' : Option Addr) (n' c' : Nat) (ys : List Int), e = .returned (.agg #[.int .i64 st, .int .i64 sa, .slice A' n' c']) ∧ OwnI w' (w.heap.size + 1) A' n' c' ys ∧ n' ≤ 26 ∧ (∀ y ∈ ys, -400000 ≤ y ∧ y ≤ 400000) ∧ Cur w' g A n c xs b ∧ w.grownBy w' (some g)
/-- a trace is drawn -/
def RetDT (w : World) (e : Ending) (w' : World) : Prop :=
  ∃ (st sa : Int) (A' : Option Addr) (n' c' : Nat) (ys : List Int), e = .returned (.agg #[.int .i64 st, .int .i64 sa, .slice A' n' c']) ∧ OwnI w' w.heap.size A' n' c' ys ∧ n' ≤ 26 ∧ (∀ y ∈ ys, -400000 ≤ y ∧ y ≤ 400000) ∧ Below w.heap.size w w'
/-- a trace and a number are drawn -/
def RetDT1 (w : World) (e : Ending) (w' : World) : Prop :=
  ∃ (st sa : Int) (A' : Option Addr) (n' c' : Nat) (ys : List Int) (x : Int), e = .returned (.tuple #[.agg #[.int .i64 st, .int .i64 sa, .slice A' n' c'], .int .i64 x]) ∧ OwnI w' w.heap.size A' n' c' ys ∧ n' ≤ 26 ∧ (∀ y ∈ ys, -400000 ≤ y ∧ y ≤ 400000) ∧ Below w.heap.size w w'

set_option maxHeartbeats 4000000 in
set_option maxRecDepth 100000 in
theorem trace_any (g n c b : Nat) (A : Option Addr) (xs : List Int) (w : World) (h : Cur w g A n c xs b) (hn : n ≤ 1048576) (hb : b ≤ 800000) :
    Calls Tryz.prog 33 #[.pointer (some ⟨g, 0, none⟩)] w (RetCR w g A n c xs (b + 220)) := by
  have hgw := h.lt
  have HZ0 := hide (Whl.here w 26 #[.int .i64 0, .int .i64 0, .slice none 0 0])
  have HC0 := hide (h.alloc (.cells #[.int .i64 0, .int .i64 0, .slice none 0 0] 26))
  have HG0 := hide (grown_alloc (World.grownBy.refl w (some g)) (.cells #[.int .i64 0, .int .i64 0, .slice none 0 0] 26))
  have HQ0 : Hid (w.heap.size + 1 = (w.alloc (.cells #[.int .i64 0, .int .i64 0, .slice none 0 0] 26)).heap.size) := by unfold Hid; simp
  clear h
  go_enter Tryz.func33, Tryz.ntmps33
  go_wp2_with fail
  generalize w.alloc (.cells #[.int .i64 0, .int .i64 0, .slice none 0 0] 26) = w0 at *
  refine (among_lit g n c b _ A xs w0 (unhide HQ0) [1, 7, 12, 12, 99] 5 _ (fun _ => True) rfl rfl (by omega) (by omega) (by simp) (unhide HC0) (by omega) (by omega)).mono ?_
  rintro e w1 ⟨st, rfl, _, hC, hgr⟩
  have HC1 := hide hC
  have HG1 := hide (grownBy_trans (unhide HG0) hgr)
  have HZ1 := hide ((unhide HZ0).gr hgr (by omega))
  clear hC hgr HC0 HG0 HZ0
  go_wp2_with fail
  refine (among_lit g n c (b + 2) _ A xs w1 rfl [0, 100, 100, 500, 999990] 5 _ (fun _ => True) rfl rfl (by omega) (by omega) (by simp) (unhide HC1) (by omega) (by omega)).mono ?_
  rintro e w2 ⟨sa, rfl, _, hC, hgr⟩
  have HC2 := hide hC
  have HG2 := hide (grownBy_trans (unhide HG1) hgr)
  have HZ2 := hide ((unhide HZ1).gr hgr (by omega))
  clear hC hgr HC1 HG1 HZ1
  go_wp2_with fail
  refine (samples_any g n c (b + 2 + 2) A xs w2 (unhide HC2) (by omega) (by omega)).mono ?_
  rintro e w3 ⟨A', n', c', ys, rfl, hO, hn', hys, hC, hgr⟩
  have hzl := (unhide HZ2).lt
  have HC3 := hide hC
  have HG3 := hide (grownBy_trans (unhide HG2) hgr)
  have HZ3 := hide ((unhide HZ2).gr hgr (by omega))
  have HO3 := hide (OwnI.less hO (lo' := w.heap.size + 1) (by omega))
  have HYS := hide hys
  clear hC hgr hO hys HC2 HG2 HZ2
  have hgs := (unhide HC3).lt
  have hzs := (unhide HZ3).lt
  have HC6 := hide ((unhide HC3).alloc (.cells #[.int .i64 st, .int .i64 sa, .slice A' n' c'] 26))
  have HG6 := hide (grown_alloc (unhide HG3) (.cells #[.int .i64 st, .int .i64 sa, .slice A' n' c'] 26))
  have HZ6 := hide ((unhide HZ3).alloc (.cells #[.int .i64 st, .int .i64 sa, .slice A' n' c'] 26))
  have HO6 := hide ((unhide HO3).alloc (.cells #[.int .i64 st, .int .i64 sa, .slice A' n' c'] 26))
  have HS6 := hide (Whl.here w3 26 #[.int .i64 st, .int .i64 sa, .slice A' n' c'])
  clear HC3 HG3 HZ3 HO3
  go_wp2_with fail
  generalize w3.heap.size = gs at *
  generalize w3.alloc (.cells #[.int .i64 st, .int .i64 sa, .slice A' n' c'] 26) = w6 at *
  refine (one_any g n c (b + 2 + 2 + 200) A xs 40 w6 (unhide HC6) (by omega) (by omega) (by omega) (by omega)).mono ?_
  rintro e w7 ⟨bb, rfl, hC, hgr⟩
  have HC7 := hide hC
  have HG7 := hide (grownBy_trans (unhide HG6) hgr)
  have HZ7 := hide ((unhide HZ6).gr hgr (by omega))
  have HS7 := hide ((unhide HS6).gr hgr (by omega))
  have HO7 := hide ((unhide HO6).gr hgr (by omega))
  clear hC hgr HC6 HG6 HZ6 HS6 HO6
  rcases bb with _ | _
  · skip
    have HSx := HS7
    have HCx := HC7
    have HGx := HG7
    have HZx := HZ7
    have HOx := HO7
    clear HS7 HC7 HG7 HZ7 HO7
    have k0 : w7.cell? ⟨gs, 0, none⟩ = some (.int .i64 st) := (unhide HSx).cell 0
    have k1 : w7.cell? ⟨gs, 1, none⟩ = some (.int .i64 sa) := (unhide HSx).cell 1
    have k2 : w7.cell? ⟨gs, 2, none⟩ = some (.slice A' n' c') := (unhide HSx).cell 2
    have m0 : w7.cell? ⟨w.heap.size, 0, none⟩ = some (.int .i64 0) := (unhide HZx).cell 0
    have n0 : w7.frozen? ⟨w.heap.size, 0, none⟩ = false := (unhide HZx).frozen 0
    have m1 : w7.cell? ⟨w.heap.size, 1, none⟩ = some (.int .i64 0) := (unhide HZx).cell 1
    have n1 : w7.frozen? ⟨w.heap.size, 1, none⟩ = false := (unhide HZx).frozen 1
    have m2 : w7.cell? ⟨w.heap.size, 2, none⟩ = some (.slice none 0 0) := (unhide HZx).cell 2
    have n2 : w7.frozen? ⟨w.heap.size, 2, none⟩ = false := (unhide HZx).frozen 2
    go_wp2_with fail
    have HY : Hid (Whl (((w7.setCell ⟨w.heap.size, 0, none⟩ (.int .i64 st)).setCell ⟨w.heap.size, 1, none⟩ (.int .i64 sa)).setCell ⟨w.heap.size, 2, none⟩ (.slice A' n' c')) w.heap.size 26 #[.int .i64 st, .int .i64 sa, .slice A' n' c']) := hide ((unhide HZx).store3 _ _ _)
    have HYC : Hid (Cur (((w7.setCell ⟨w.heap.size, 0, none⟩ (.int .i64 st)).setCell ⟨w.heap.size, 1, none⟩ (.int .i64 sa)).setCell ⟨w.heap.size, 2, none⟩ (.slice A' n' c')) g A n c xs (b + 220)) := hide (((((unhide HCx).more (show _ ≤ b + 220 by omega)).set (p := ⟨w.heap.size, 0, none⟩) hgw _).set (p := ⟨w.heap.size, 1, none⟩) hgw _).set (p := ⟨w.heap.size, 2, none⟩) hgw _)
    have HYG : Hid (w.grownBy (((w7.setCell ⟨w.heap.size, 0, none⟩ (.int .i64 st)).setCell ⟨w.heap.size, 1, none⟩ (.int .i64 sa)).setCell ⟨w.heap.size, 2, none⟩ (.slice A' n' c')) (some g)) := hide (grown_set' (grown_set' (grown_set' (unhide HGx) (p := ⟨w.heap.size, 0, none⟩) (Nat.le_refl _) _) (p := ⟨w.heap.size, 1, none⟩) (Nat.le_refl _) _) (p := ⟨w.heap.size, 2, none⟩) (Nat.le_refl _) _)
    have HYO : Hid (OwnI (((w7.setCell ⟨w.heap.size, 0, none⟩ (.int .i64 st)).setCell ⟨w.heap.size, 1, none⟩ (.int .i64 sa)).setCell ⟨w.heap.size, 2, none⟩ (.slice A' n' c')) (w.heap.size + 1) A' n' c' ys) := hide ((((unhide HOx).setB' (a := ⟨w.heap.size, 0, none⟩) (Nat.lt_succ_self _) _).setB' (a := ⟨w.heap.size, 1, none⟩) (Nat.lt_succ_self _) _).setB' (a := ⟨w.heap.size, 2, none⟩) (Nat.lt_succ_self _) _)
    clear k0 k1 k2 m0 m1 m2 n0 n1 n2 HSx HCx HGx HZx HOx
    generalize (((w7.setCell ⟨w.heap.size, 0, none⟩ (.int .i64 st)).setCell ⟨w.heap.size, 1, none⟩ (.int .i64 sa)).setCell ⟨w.heap.size, 2, none⟩ (.slice A' n' c')) = wz at *
    have y0 : wz.cell? ⟨w.heap.size, 0, none⟩ = some (.int .i64 st) := (unhide HY).cell 0
    have x0 : wz.frozen? ⟨w.heap.size, 0, none⟩ = false := (unhide HY).frozen 0
    have y1 : wz.cell? ⟨w.heap.size, 1, none⟩ = some (.int .i64 sa) := (unhide HY).cell 1
    have x1 : wz.frozen? ⟨w.heap.size, 1, none⟩ = false := (unhide HY).frozen 1
    have y2 : wz.cell? ⟨w.heap.size, 2, none⟩ = some (.slice A' n' c') := (unhide HY).cell 2
    have x2 : wz.frozen? ⟨w.heap.size, 2, none⟩ = false := (unhide HY).frozen 2
    go_wp2_with fail
    refine bodyPost_ret (v := .agg #[.int .i64 st, .int .i64 sa, .slice A' n' c']) (by simp [results, Tryz.results33, go_sem, y0, y1, y2]) rfl ?_
    exact ⟨_, _, A', n', c', ys, rfl, unhide HYO, hn', unhide HYS, unhide HYC, unhide HYG⟩
  · go_wp2_with fail
    refine (among_lit g n c (b + 2 + 2 + 200 + 2) _ A xs w7 rfl [0, 100] 2 _ (fun _ => True) rfl rfl (by omega) (by omega) (by simp) (unhide HC7) (by omega) (by omega)).mono ?_
    rintro e w8 ⟨st2, rfl, _, hC, hgr⟩
    have HC8 := hide hC
    have HG8 := hide (grownBy_trans (unhide HG7) hgr)
    have HZ8 := hide ((unhide HZ7).gr hgr (by omega))
    have HS8 := hide ((unhide HS7).gr hgr (by omega))
    have HO8 := hide ((unhide HO7).gr hgr (by omega))
    have u0 : w8.cell? ⟨gs, 0, none⟩ = some (.int .i64 st) := (unhide HS8).cell 0
    have u1 : w8.frozen? ⟨gs, 0, none⟩ = false := (unhide HS8).frozen 0
    clear hC hgr HC7 HG7 HZ7 HS7 HO7
    go_upto_region 4 with (fail)
    clear u0 u1
    have HS9 : Hid (Whl (w8.setCell ⟨gs, 0, none⟩ (.int .i64 st2)) gs 26 #[.int .i64 st2, .int .i64 sa, .slice A' n' c']) := hide ((unhide HS8).store 0 _)
    have HC9 : Hid (Cur (w8.setCell ⟨gs, 0, none⟩ (.int .i64 st2)) g A n c xs (b + 2 + 2 + 200 + 2 + 2)) := hide ((unhide HC8).set (p := ⟨gs, 0, none⟩) hgs _)
    have HG9 : Hid (w.grownBy (w8.setCell ⟨gs, 0, none⟩ (.int .i64 st2)) (some g)) := hide (grown_set' (unhide HG8) (p := ⟨gs, 0, none⟩) (Nat.le_of_lt hzs) _)
    have HZ9 : Hid (Whl (w8.setCell ⟨gs, 0, none⟩ (.int .i64 st2)) w.heap.size 26 _) := hide (Whl.far (unhide HZ8) (p := ⟨gs, 0, none⟩) (by show w.heap.size ≠ gs; omega) _)
    have hsn : (Value.slice A' n' c').ownBlock ≠ some gs := by
      rcases hv : (Value.slice A' n' c').ownBlock with _ | r
      · intro h9; cases h9
      · intro h9
        injection h9 with h9
        subst h9
        exact own_whl (unhide HO8) (unhide HS8) (by decide) hv
    have HO9 : Hid (OwnI (w8.setCell ⟨gs, 0, none⟩ (.int .i64 st2)) (w.heap.size + 1) A' n' c' ys) := hide (OwnI.kept (unhide HO8) (grown_set _ _ _) (.inr hsn))
    clear HS8 HC8 HG8 HZ8 HO8 hsn
    generalize (w8.setCell ⟨gs, 0, none⟩ (.int .i64 st2)) = w9 at *
    have HSx := HS9
    have HCx := HC9
    have HGx := HG9
    have HZx := HZ9
    have HOx := HO9
    clear HS9 HC9 HG9 HZ9 HO9
    have k0 : w9.cell? ⟨gs, 0, none⟩ = some (.int .i64 st2) := (unhide HSx).cell 0
    have k1 : w9.cell? ⟨gs, 1, none⟩ = some (.int .i64 sa) := (unhide HSx).cell 1
    have k2 : w9.cell? ⟨gs, 2, none⟩ = some (.slice A' n' c') := (unhide HSx).cell 2
    have m0 : w9.cell? ⟨w.heap.size, 0, none⟩ = some (.int .i64 0) := (unhide HZx).cell 0
    have n0 : w9.frozen? ⟨w.heap.size, 0, none⟩ = false := (unhide HZx).frozen 0
    have m1 : w9.cell? ⟨w.heap.size, 1, none⟩ = some (.int .i64 0) := (unhide HZx).cell 1
    have n1 : w9.frozen? ⟨w.heap.size, 1, none⟩ = false := (unhide HZx).frozen 1
    have m2 : w9.cell? ⟨w.heap.size, 2, none⟩ = some (.slice none 0 0) := (unhide HZx).cell 2
    have n2 : w9.frozen? ⟨w.heap.size, 2, none⟩ = false := (unhide HZx).frozen 2
    go_wp2_with fail
    have HY : Hid (Whl (((w9.setCell ⟨w.heap.size, 0, none⟩ (.int .i64 st2)).setCell ⟨w.heap.size, 1, none⟩ (.int .i64 sa)).setCell ⟨w.heap.size, 2, none⟩ (.slice A' n' c')) w.heap.size 26 #[.int .i64 st2, .int .i64 sa, .slice A' n' c']) := hide ((unhide HZx).store3 _ _ _)
    have HYC : Hid (Cur (((w9.setCell ⟨w.heap.size, 0, none⟩ (.int .i64 st2)).setCell ⟨w.heap.size, 1, none⟩ (.int .i64 sa)).setCell ⟨w.heap.size, 2, none⟩ (.slice A' n' c')) g A n c xs (b + 220)) := hide (((((unhide HCx).more (show _ ≤ b + 220 by omega)).set (p := ⟨w.heap.size, 0, none⟩) hgw _).set (p := ⟨w.heap.size, 1, none⟩) hgw _).set (p := ⟨w.heap.size, 2, none⟩) hgw _)
    have HYG : Hid (w.grownBy (((w9.setCell ⟨w.heap.size, 0, none⟩ (.int .i64 st2)).setCell ⟨w.heap.size, 1, none⟩ (.int .i64 sa)).setCell ⟨w.heap.size, 2, none⟩ (.slice A' n' c')) (some g)) := hide (grown_set' (grown_set' (grown_set' (unhide HGx) (p := ⟨w.heap.size, 0, none⟩) (Nat.le_refl _) _) (p := ⟨w.heap.size, 1, none⟩) (Nat.le_refl _) _) (p := ⟨w.heap.size, 2, none⟩) (Nat.le_refl _) _)
    have HYO : Hid (OwnI (((w9.setCell ⟨w.heap.size, 0, none⟩ (.int .i64 st2)).setCell ⟨w.heap.size, 1, none⟩ (.int .i64 sa)).setCell ⟨w.heap.size, 2, none⟩ (.slice A' n' c')) (w.heap.size + 1) A' n' c' ys) := hide ((((unhide HOx).setB' (a := ⟨w.heap.size, 0, none⟩) (Nat.lt_succ_self _) _).setB' (a := ⟨w.heap.size, 1, none⟩) (Nat.lt_succ_self _) _).setB' (a := ⟨w.heap.size, 2, none⟩) (Nat.lt_succ_self _) _)
    clear k0 k1 k2 m0 m1 m2 n0 n1 n2 HSx HCx HGx HZx HOx
    generalize (((w9.setCell ⟨w.heap.size, 0, none⟩ (.int .i64 st2)).setCell ⟨w.heap.size, 1, none⟩ (.int .i64 sa)).setCell ⟨w.heap.size, 2, none⟩ (.slice A' n' c')) = wz at *
    have y0 : wz.cell? ⟨w.heap.size, 0, none⟩ = some (.int .i64 st2) := (unhide HY).cell 0
    have x0 : wz.frozen? ⟨w.heap.size, 0, none⟩ = false := (unhide HY).frozen 0
    have y1 : wz.cell? ⟨w.heap.size, 1, none⟩ = some (.int .i64 sa) := (unhide HY).cell 1
    have x1 : wz.frozen? ⟨w.heap.size, 1, none⟩ = false := (unhide HY).frozen 1
    have y2 : wz.cell? ⟨w.heap.size, 2, none⟩ = some (.slice A' n' c') := (unhide HY).cell 2
    have x2 : wz.frozen? ⟨w.heap.size, 2, none⟩ = false := (unhide HY).frozen 2
    go_wp2_with fail
    refine bodyPost_ret (v := .agg #[.int .i64 st2, .int .i64 sa, .slice A' n' c']) (by simp [results, Tryz.results33, go_sem, y0, y1, y2]) rfl ?_
    exact ⟨_, _, A', n', c', ys, rfl, unhide HYO, hn', unhide HYS, unhide HYC, unhide HYG⟩
set_option maxHeartbeats 4000000 in
set_option maxRecDepth 100000 in
theorem drawIsTrace_any (A : Option Addr) (n c : Nat) (xs : List Int) (w : World) (hr : RB w w.heap.size A n xs) (hn : n ≤ 65536) :
    Calls Tryz.prog 19 #[.slice A n c] w (RetDT w) := by
  have hz : w.heap.size + 1 = (w.alloc (.cells #[.int .i64 0, .int .i64 0, .slice none 0 0] 26)).heap.size := by simp
  have HC0 : Hid (Cur ((w.alloc (.cells #[.int .i64 0, .int .i64 0, .slice none 0 0] 26)).alloc (.cells #[.slice A n c, .int .i64 0, .int .u64 0] 58)) (w.heap.size + 1) A n c xs 0) := by
    unfold Hid
    rw [hz]
    exact Cur.new c (RB.later hr ((Below.refl _ w).alloc (Nat.le_refl _) (.cells #[.int .i64 0, .int .i64 0, .slice none 0 0] 26)))
  have HZ0 := hide ((Whl.here w 26 #[.int .i64 0, .int .i64 0, .slice none 0 0]).alloc (.cells #[.slice A n c, .int .i64 0, .int .u64 0] 58))
  have HBA := hide (((Below.refl _ w).alloc (Nat.le_refl _) (.cells #[.int .i64 0, .int .i64 0, .slice none 0 0] 26)).alloc (by simp) (.cells #[.slice A n c, .int .i64 0, .int .u64 0] 58))
  clear hr hz
  go_enter Tryz.func19, Tryz.ntmps19
  go_wp2_with fail
  generalize (w.alloc (.cells #[.int .i64 0, .int .i64 0, .slice none 0 0] 26)).alloc (.cells #[.slice A n c, .int .i64 0, .int .u64 0] 58) = w0 at *
  have hgA := (unhide HC0).lt
  have HG0 := hide (World.grownBy.refl w0 (some (w.heap.size + 1)))
  refine (trace_any (w.heap.size + 1) n c 0 A xs w0 (unhide HC0) (by omega) (by omega)).mono ?_
  rintro e w1 ⟨st, sa, A', n', c', ys, rfl, hO, hn', hys, hC, hgr⟩
  have HG1 := hide (grownBy_trans (unhide HG0) hgr)
  have HZ1 := hide ((unhide HZ0).gr hgr (by omega))
  have HC1 := hide hC
  have HO1 := hide (OwnI.less hO (lo' := w.heap.size + 2) (by omega))
  have HYS := hide hys
  clear hC hgr hO hys HC0 HG0 HZ0
  have m0 : w1.cell? ⟨w.heap.size, 0, none⟩ = some (.int .i64 0) := (unhide HZ1).cell 0
  have n0 : w1.frozen? ⟨w.heap.size, 0, none⟩ = false := (unhide HZ1).frozen 0
  have m1 : w1.cell? ⟨w.heap.size, 1, none⟩ = some (.int .i64 0) := (unhide HZ1).cell 1
  have n1 : w1.frozen? ⟨w.heap.size, 1, none⟩ = false := (unhide HZ1).frozen 1
  have m2 : w1.cell? ⟨w.heap.size, 2, none⟩ = some (.slice none 0 0) := (unhide HZ1).cell 2
  have n2 : w1.frozen? ⟨w.heap.size, 2, none⟩ = false := (unhide HZ1).frozen 2
  go_wp2_with fail
  clear m0 m1 m2 n0 n1 n2
  have hlo9 : w.heap.size < w.heap.size + 2 := by omega
  have hlo8 : w.heap.size ≤ w.heap.size + 2 := by omega
  have HB1 := hide (below_cur (unhide HBA) (unhide HG1) (by omega))
  have HY : Hid (Whl (((w1.setCell ⟨w.heap.size, 0, none⟩ (.int .i64 st)).setCell ⟨w.heap.size, 1, none⟩ (.int .i64 sa)).setCell ⟨w.heap.size, 2, none⟩ (.slice A' n' c')) w.heap.size 26 #[.int .i64 st, .int .i64 sa, .slice A' n' c']) := hide ((unhide HZ1).store3 _ _ _)
  have HYB : Hid (Below w.heap.size w (((w1.setCell ⟨w.heap.size, 0, none⟩ (.int .i64 st)).setCell ⟨w.heap.size, 1, none⟩ (.int .i64 sa)).setCell ⟨w.heap.size, 2, none⟩ (.slice A' n' c'))) := hide (Below.setCell (Below.setCell (Below.setCell (unhide HB1) (p := ⟨w.heap.size, 0, none⟩) (Nat.le_refl _) _) (p := ⟨w.heap.size, 1, none⟩) (Nat.le_refl _) _) (p := ⟨w.heap.size, 2, none⟩) (Nat.le_refl _) _)
  have HYO : Hid (OwnI (((w1.setCell ⟨w.heap.size, 0, none⟩ (.int .i64 st)).setCell ⟨w.heap.size, 1, none⟩ (.int .i64 sa)).setCell ⟨w.heap.size, 2, none⟩ (.slice A' n' c')) _ A' n' c' ys) := hide ((((unhide HO1).setB' (a := ⟨w.heap.size, 0, none⟩) hlo9 _).setB' (a := ⟨w.heap.size, 1, none⟩) hlo9 _).setB' (a := ⟨w.heap.size, 2, none⟩) hlo9 _)
  clear HZ1 HB1 HO1
  generalize (((w1.setCell ⟨w.heap.size, 0, none⟩ (.int .i64 st)).setCell ⟨w.heap.size, 1, none⟩ (.int .i64 sa)).setCell ⟨w.heap.size, 2, none⟩ (.slice A' n' c')) = wz at *
  have y0 : wz.cell? ⟨w.heap.size, 0, none⟩ = some (.int .i64 st) := (unhide HY).cell 0
  have x0 : wz.frozen? ⟨w.heap.size, 0, none⟩ = false := (unhide HY).frozen 0
  have y1 : wz.cell? ⟨w.heap.size, 1, none⟩ = some (.int .i64 sa) := (unhide HY).cell 1
  have x1 : wz.frozen? ⟨w.heap.size, 1, none⟩ = false := (unhide HY).frozen 1
  have y2 : wz.cell? ⟨w.heap.size, 2, none⟩ = some (.slice A' n' c') := (unhide HY).cell 2
  have x2 : wz.frozen? ⟨w.heap.size, 2, none⟩ = false := (unhide HY).frozen 2
  go_wp2_with fail
  refine bodyPost_ret (v := .agg #[.int .i64 st, .int .i64 sa, .slice A' n' c']) (by simp [results, Tryz.results19, go_sem, y0, y1, y2]) rfl ?_
  exact ⟨st, sa, A', n', c', ys, rfl, OwnI.less (unhide HYO) hlo8, hn', unhide HYS, unhide HYB⟩
set_option maxHeartbeats 4000000 in
set_option maxRecDepth 100000 in
theorem drawTraceText_any (A : Option Addr) (n c : Nat) (xs : List Int) (w : World) (hr : RB w w.heap.size A n xs) (hn : n ≤ 65536) :
    Calls Tryz.prog 5 #[.slice A n c] w (RetDT w) := by
  have HD := hide (drawIsTrace_any A n c xs (w.alloc (.cells #[.int .i64 0, .int .i64 0, .slice none 0 0] 26)) (RB.later hr ((Below.refl _ w).alloc (Nat.le_refl _) _)) hn)
  have HZ0 := hide (Whl.here w 26 #[.int .i64 0, .int .i64 0, .slice none 0 0])
  have HB0 := hide ((Below.refl _ w).alloc (Nat.le_refl _) (.cells #[.int .i64 0, .int .i64 0, .slice none 0 0] 26))
  have hs0 : w.heap.size < (w.alloc (.cells #[.int .i64 0, .int .i64 0, .slice none 0 0] 26)).heap.size := by simp
  clear hr
  go_enter Tryz.func5, Tryz.ntmps5
  go_wp2_with fail
  generalize w.alloc (.cells #[.int .i64 0, .int .i64 0, .slice none 0 0] 26) = w0 at *
  refine (unhide HD).mono ?_
  rintro e w1 ⟨st, sa, A', n', c', ys, rfl, hO, hn', hys, hb⟩
  have HB1 := hide (below_nx (unhide HB0) hb)
  have HZ1 := hide ((unhide HZ0).below hb)
  have HO1 := hide hO
  have HYS := hide hys
  have hlo9 := hs0
  have hlo8 := Nat.le_of_lt hs0
  clear hb hO hys HZ0 HB0 HD
  have m0 : w1.cell? ⟨w.heap.size, 0, none⟩ = some (.int .i64 0) := (unhide HZ1).cell 0
  have n0 : w1.frozen? ⟨w.heap.size, 0, none⟩ = false := (unhide HZ1).frozen 0
  have m1 : w1.cell? ⟨w.heap.size, 1, none⟩ = some (.int .i64 0) := (unhide HZ1).cell 1
  have n1 : w1.frozen? ⟨w.heap.size, 1, none⟩ = false := (unhide HZ1).frozen 1
  have m2 : w1.cell? ⟨w.heap.size, 2, none⟩ = some (.slice none 0 0) := (unhide HZ1).cell 2
  have n2 : w1.frozen? ⟨w.heap.size, 2, none⟩ = false := (unhide HZ1).frozen 2
  go_wp2_with fail
  clear m0 m1 m2 n0 n1 n2
  have HY : Hid (Whl (((w1.setCell ⟨w.heap.size, 0, none⟩ (.int .i64 st)).setCell ⟨w.heap.size, 1, none⟩ (.int .i64 sa)).setCell ⟨w.heap.size, 2, none⟩ (.slice A' n' c')) w.heap.size 26 #[.int .i64 st, .int .i64 sa, .slice A' n' c']) := hide ((unhide HZ1).store3 _ _ _)
  have HYB : Hid (Below w.heap.size w (((w1.setCell ⟨w.heap.size, 0, none⟩ (.int .i64 st)).setCell ⟨w.heap.size, 1, none⟩ (.int .i64 sa)).setCell ⟨w.heap.size, 2, none⟩ (.slice A' n' c'))) := hide (Below.setCell (Below.setCell (Below.setCell (unhide HB1) (p := ⟨w.heap.size, 0, none⟩) (Nat.le_refl _) _) (p := ⟨w.heap.size, 1, none⟩) (Nat.le_refl _) _) (p := ⟨w.heap.size, 2, none⟩) (Nat.le_refl _) _)
  have HYO : Hid (OwnI (((w1.setCell ⟨w.heap.size, 0, none⟩ (.int .i64 st)).setCell ⟨w.heap.size, 1, none⟩ (.int .i64 sa)).setCell ⟨w.heap.size, 2, none⟩ (.slice A' n' c')) _ A' n' c' ys) := hide ((((unhide HO1).setB' (a := ⟨w.heap.size, 0, none⟩) hlo9 _).setB' (a := ⟨w.heap.size, 1, none⟩) hlo9 _).setB' (a := ⟨w.heap.size, 2, none⟩) hlo9 _)
  clear HZ1 HB1 HO1
  generalize (((w1.setCell ⟨w.heap.size, 0, none⟩ (.int .i64 st)).setCell ⟨w.heap.size, 1, none⟩ (.int .i64 sa)).setCell ⟨w.heap.size, 2, none⟩ (.slice A' n' c')) = wz at *
  have y0 : wz.cell? ⟨w.heap.size, 0, none⟩ = some (.int .i64 st) := (unhide HY).cell 0
  have x0 : wz.frozen? ⟨w.heap.size, 0, none⟩ = false := (unhide HY).frozen 0
  have y1 : wz.cell? ⟨w.heap.size, 1, none⟩ = some (.int .i64 sa) := (unhide HY).cell 1
  have x1 : wz.frozen? ⟨w.heap.size, 1, none⟩ = false := (unhide HY).frozen 1
  have y2 : wz.cell? ⟨w.heap.size, 2, none⟩ = some (.slice A' n' c') := (unhide HY).cell 2
  have x2 : wz.frozen? ⟨w.heap.size, 2, none⟩ = false := (unhide HY).frozen 2
  go_wp2_with fail
  refine bodyPost_ret (v := .agg #[.int .i64 st, .int .i64 sa, .slice A' n' c']) (by simp [results, Tryz.results5, go_sem, y0, y1, y2]) rfl ?_
  exact ⟨st, sa, A', n', c', ys, rfl, OwnI.less (unhide HYO) hlo8, hn', unhide HYS, unhide HYB⟩
end Go.Proofs.YtdpmpdhhjmbbcaaGreatDoor
