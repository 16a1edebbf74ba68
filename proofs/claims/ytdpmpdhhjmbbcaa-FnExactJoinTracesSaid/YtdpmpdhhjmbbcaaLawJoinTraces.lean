/- The walk of the law FnExactJoinTraces: it says true, at every input; what was there stays as it was. By gen_law2.py. -/
import Derived.Test.YtdpmpdhhjmbbcaaProg
import Derived.Test.YtdpmpdhhjmbbcaaTraceA
import Derived.Test.YtdpmpdhhjmbbcaaTraceJ
import Derived.Deep.RegionHeld3
namespace Go.Proofs.Ytdpmpdhhjmbbcaa
open Go.RowKit
set_option linter.unusedVariables false

set_option maxHeartbeats 4000000 in
set_option maxRecDepth 100000 in
theorem law_JoinTraces (a0 b0 : Int) (A0 : Option Addr) (n0 c0 : Nat) (xs0 : List Int) (a1 b1 : Int) (A1 : Option Addr) (n1 c1 : Nat) (xs1 : List Int) (w : World) (hr0 : RI w w.heap.size A0 n0 xs0) (hm0 : n0 ≤ 9223372036854775807) (hia0 : -9223372036854775808 ≤ a0 ∧ a0 ≤ 9223372036854775807) (hib0 : -9223372036854775808 ≤ b0 ∧ b0 ≤ 9223372036854775807) (hr1 : RI w w.heap.size A1 n1 xs1) (hm1 : n1 ≤ 9223372036854775807) (hia1 : -9223372036854775808 ≤ a1 ∧ a1 ≤ 9223372036854775807) (hib1 : -9223372036854775808 ≤ b1 ∧ b1 ≤ 9223372036854775807) :
    Calls Try.prog 6 #[.agg #[.int .i64 a0, .int .i64 b0, .slice A0 n0 c0], .agg #[.int .i64 a1, .int .i64 b1, .slice A1 n1 c1]] w fun e w' => e = .returned (.bool true) ∧ Below w.heap.size w w' := by
  by_cases hbig0 : 1048576 - (n0 : Int) < 0
  · have hz : szI (1048576) n0 = -1 := by unfold szI; rw [if_pos hbig0]
    have Z := fun W => szTrace_any a0 b0 A0 n0 c0 (1048576) W (by omega) (by omega) hm0
    rw [hz] at Z
    have HZ := hide Z
    clear Z hz hr0 hr1
    go_enter Try.func6, Try.ntmps6
    go_wp2_with fail
    refine (unhide HZ _).mono ?_
    rintro e w1 ⟨rfl, hb1⟩
    have HB1 := hide hb1
    clear hb1
    go_wp2_with fail
    go_ret
    exact ⟨rfl, ((((Below.refl _ w)).alloc (by simp <;> omega) _).alloc (by simp <;> omega) _).trans ((unhide HB1).mono (by first | omega | (simp <;> omega)))⟩
  have hle0 : n0 ≤ 1048576 := by omega
  have HZ0 : Hid (∀ W, Calls Try.prog 12 #[.agg #[.int .i64 a0, .int .i64 b0, .slice A0 n0 c0], .int .i64 (1048576)] W fun e w' => e = .returned (.int .i64 (1048576 - (n0 : Int))) ∧ Below W.heap.size W w') := by
    intro W
    have Z := szTrace_any a0 b0 A0 n0 c0 (1048576) W (by omega) (by omega) hm0
    have hz : szI (1048576) n0 = 1048576 - (n0 : Int) := by unfold szI; rw [if_neg hbig0]
    rwa [hz] at Z
  by_cases hbig1 : 1048576 - (n0 : Int) - (n1 : Int) < 0
  · have hz : szI (1048576 - (n0 : Int)) n1 = -1 := by unfold szI; rw [if_pos hbig1]
    have Z := fun W => szTrace_any a1 b1 A1 n1 c1 (1048576 - (n0 : Int)) W (by omega) (by omega) hm1
    rw [hz] at Z
    have HZ := hide Z
    clear Z hz hr0 hr1
    go_enter Try.func6, Try.ntmps6
    go_wp2_with fail
    refine (unhide HZ0 _).mono ?_
    rintro e wz0 ⟨rfl, hbz0⟩
    have hlz0 := hbz0.size
    simp at hlz0
    have mza0_0 : wz0.cell? ⟨w.heap.size, 0, none⟩ = some (.int .i64 a0) := (hbz0.cell (p := ⟨w.heap.size, 0, none⟩) (by simp <;> omega)).trans (by simp)
    have mza0_1 : wz0.cell? ⟨w.heap.size, 1, none⟩ = some (.int .i64 b0) := (hbz0.cell (p := ⟨w.heap.size, 1, none⟩) (by simp <;> omega)).trans (by simp)
    have mza0_2 : wz0.cell? ⟨w.heap.size, 2, none⟩ = some (.slice A0 n0 c0) := (hbz0.cell (p := ⟨w.heap.size, 2, none⟩) (by simp <;> omega)).trans (by simp)
    have mza1_0 : wz0.cell? ⟨w.heap.size + 1, 0, none⟩ = some (.int .i64 a1) := (hbz0.cell (p := ⟨w.heap.size + 1, 0, none⟩) (by simp <;> omega)).trans (by simp)
    have mza1_1 : wz0.cell? ⟨w.heap.size + 1, 1, none⟩ = some (.int .i64 b1) := (hbz0.cell (p := ⟨w.heap.size + 1, 1, none⟩) (by simp <;> omega)).trans (by simp)
    have mza1_2 : wz0.cell? ⟨w.heap.size + 1, 2, none⟩ = some (.slice A1 n1 c1) := (hbz0.cell (p := ⟨w.heap.size + 1, 2, none⟩) (by simp <;> omega)).trans (by simp)
    have HBz := hide hbz0
    clear hbz0
    go_wp2_with fail
    refine (unhide HZ _).mono ?_
    rintro e w1 ⟨rfl, hb1⟩
    have HB1 := hide hb1
    clear hb1
    go_wp2_with fail
    go_ret
    exact ⟨rfl, (((((Below.refl _ w)).alloc (by simp <;> omega) _).alloc (by simp <;> omega) _).trans ((unhide HBz).mono (by first | omega | (simp <;> omega)))).trans ((unhide HB1).mono (by first | omega | (simp <;> omega)))⟩
  have hle1 : n1 ≤ 1048576 := by omega
  have HZ1 : Hid (∀ W, Calls Try.prog 12 #[.agg #[.int .i64 a1, .int .i64 b1, .slice A1 n1 c1], .int .i64 (1048576 - (n0 : Int))] W fun e w' => e = .returned (.int .i64 (1048576 - (n0 : Int) - (n1 : Int))) ∧ Below W.heap.size W w') := by
    intro W
    have Z := szTrace_any a1 b1 A1 n1 c1 (1048576 - (n0 : Int)) W (by omega) (by omega) hm1
    have hz : szI (1048576 - (n0 : Int)) n1 = 1048576 - (n0 : Int) - (n1 : Int) := by unfold szI; rw [if_neg hbig1]
    rwa [hz] at Z
  obtain ⟨ra0, rb0, ys0, r1, HS, HI, HY0⟩ : ∃ (ra0 rb0 : Int) (ys0 : List Int) (r1 : Bool), Hid (∀ (W : World) (A0' : Option Addr) (n0' c0' : Nat) (A1' : Option Addr) (n1' c1' : Nat), n0' ≤ 1048576 → n0' ≤ c0' → RI W W.heap.size A0' n0' xs0 → n1' ≤ 1048576 → n1' ≤ c1' → RI W W.heap.size A1' n1' xs1 → Calls Try.prog 23 #[.agg #[.int .i64 a0, .int .i64 b0, .slice A0' n0' c0'], .agg #[.int .i64 a1, .int .i64 b1, .slice A1' n1' c1']] W (RetTB W ra0 rb0 ys0 r1)) ∧ Hid (∀ (W : World) (A0' : Option Addr) (n0' c0' : Nat) (A1' : Option Addr) (n1' c1' : Nat), n0' ≤ 1048576 → n0' ≤ c0' → RI W W.heap.size A0' n0' xs0 → n1' ≤ 1048576 → n1' ≤ c1' → RI W W.heap.size A1' n1' xs1 → Calls Try.prog 24 #[.agg #[.int .i64 a0, .int .i64 b0, .slice A0' n0' c0'], .agg #[.int .i64 a1, .int .i64 b1, .slice A1' n1' c1']] W (RetTB W ra0 rb0 ys0 r1)) ∧ Hid (ys0.length ≤ 2097152) :=
    ⟨_, _, _, _, fun W A0' n0' c0' A1' n1' c1' h0' q0' g0' h1' q1' g1' => specJoin_any a0 b0 A0' n0' c0' xs0 a1 b1 A1' n1' c1' xs1 W g0' h0' g1' h1', fun W A0' n0' c0' A1' n1' c1' h0' q0' g0' h1' q1' g1' => implJoin_any a0 b0 A0' n0' c0' xs0 a1 b1 A1' n1' c1' xs1 W g0' h0' g1' h1', by unfold Hid; exact join_len _ _ _ _ _ _ (by have := hr0.len; omega) (by have := hr1.len; omega)⟩
  have HR0 := hide hr0
  have HL0 := hide hr0.len
  clear hr0 hbig0
  have HR1 := hide hr1
  have HL1 := hide hr1.len
  clear hr1
  have hbn1 : ¬ (1048576 - (n0 : Int) < n1) := by omega
  have HB0 := hide (Below.refl w.heap.size w)
  go_enter Try.func6, Try.ntmps6
  go_wp2_with fail
  refine (unhide HZ0 _).mono ?_
  rintro e w1 ⟨rfl, hb1⟩
  have hq1 : Below w.heap.size w w1 := ((((Below.refl _ w)).alloc (by simp <;> omega) _).alloc (by simp <;> omega) _).trans (hb1.mono (by simp <;> omega))
  have z1 : w.heap.size + 2 ≤ w1.heap.size := by have := hb1.size; (try simp at this); omega
  have HB1 := hide ((unhide HB0).trans (hq1.mono (unhide HB0).size))
  have ma0_0_1 : w1.cell? ⟨w.heap.size, 0, none⟩ = some (.int .i64 a0) := (hb1.cell (p := ⟨w.heap.size, 0, none⟩) (by simp <;> omega)).trans (by simp)
  have ma0_1_1 : w1.cell? ⟨w.heap.size, 1, none⟩ = some (.int .i64 b0) := (hb1.cell (p := ⟨w.heap.size, 1, none⟩) (by simp <;> omega)).trans (by simp)
  have ma0_2_1 : w1.cell? ⟨w.heap.size, 2, none⟩ = some (.slice A0 n0 c0) := (hb1.cell (p := ⟨w.heap.size, 2, none⟩) (by simp <;> omega)).trans (by simp)
  have la0_1 : w.heap.size < w1.heap.size := by omega
  have ma1_0_1 : w1.cell? ⟨w.heap.size + 1, 0, none⟩ = some (.int .i64 a1) := (hb1.cell (p := ⟨w.heap.size + 1, 0, none⟩) (by simp <;> omega)).trans (by simp)
  have ma1_1_1 : w1.cell? ⟨w.heap.size + 1, 1, none⟩ = some (.int .i64 b1) := (hb1.cell (p := ⟨w.heap.size + 1, 1, none⟩) (by simp <;> omega)).trans (by simp)
  have ma1_2_1 : w1.cell? ⟨w.heap.size + 1, 2, none⟩ = some (.slice A1 n1 c1) := (hb1.cell (p := ⟨w.heap.size + 1, 2, none⟩) (by simp <;> omega)).trans (by simp)
  have la1_1 : w.heap.size + 1 < w1.heap.size := by omega
  clear hb1 hq1 HB0
  go_wp2_with fail
  refine (unhide HZ1 _).mono ?_
  rintro e w2 ⟨rfl, hb2⟩
  have hq2 := hb2
  have z2 : w1.heap.size + 0 ≤ w2.heap.size := by have := hb2.size; (try simp at this); omega
  have HB2 := hide ((unhide HB1).trans (hq2.mono (unhide HB1).size))
  have ma0_0_2 : w2.cell? ⟨w.heap.size, 0, none⟩ = some (.int .i64 a0) := (hq2.cell (p := ⟨w.heap.size, 0, none⟩) la0_1).trans ma0_0_1
  have ma0_1_2 : w2.cell? ⟨w.heap.size, 1, none⟩ = some (.int .i64 b0) := (hq2.cell (p := ⟨w.heap.size, 1, none⟩) la0_1).trans ma0_1_1
  have ma0_2_2 : w2.cell? ⟨w.heap.size, 2, none⟩ = some (.slice A0 n0 c0) := (hq2.cell (p := ⟨w.heap.size, 2, none⟩) la0_1).trans ma0_2_1
  have la0_2 : w.heap.size < w2.heap.size := Nat.lt_of_lt_of_le la0_1 hq2.size
  clear ma0_0_1 ma0_1_1 ma0_2_1 la0_1 
  have ma1_0_2 : w2.cell? ⟨w.heap.size + 1, 0, none⟩ = some (.int .i64 a1) := (hq2.cell (p := ⟨w.heap.size + 1, 0, none⟩) la1_1).trans ma1_0_1
  have ma1_1_2 : w2.cell? ⟨w.heap.size + 1, 1, none⟩ = some (.int .i64 b1) := (hq2.cell (p := ⟨w.heap.size + 1, 1, none⟩) la1_1).trans ma1_1_1
  have ma1_2_2 : w2.cell? ⟨w.heap.size + 1, 2, none⟩ = some (.slice A1 n1 c1) := (hq2.cell (p := ⟨w.heap.size + 1, 2, none⟩) la1_1).trans ma1_2_1
  have la1_2 : w.heap.size + 1 < w2.heap.size := Nat.lt_of_lt_of_le la1_1 hq2.size
  clear ma1_0_1 ma1_1_1 ma1_2_1 la1_1 
  clear hb2 hq2 HB1
  go_wp2_with fail
  have SIX := hide (fun (W : World) (hb : Below w2.heap.size w2 W) => (⟨(hb.cell (p := ⟨w.heap.size, 0, none⟩) la0_2).trans ma0_0_2, (hb.cell (p := ⟨w.heap.size, 1, none⟩) la0_2).trans ma0_1_2, (hb.cell (p := ⟨w.heap.size, 2, none⟩) la0_2).trans ma0_2_2, (hb.cell (p := ⟨w.heap.size + 1, 0, none⟩) la1_2).trans ma1_0_2, (hb.cell (p := ⟨w.heap.size + 1, 1, none⟩) la1_2).trans ma1_1_2, (hb.cell (p := ⟨w.heap.size + 1, 2, none⟩) la1_2).trans ma1_2_2⟩ : W.cell? ⟨w.heap.size, 0, none⟩ = some (.int .i64 a0) ∧ W.cell? ⟨w.heap.size, 1, none⟩ = some (.int .i64 b0) ∧ W.cell? ⟨w.heap.size, 2, none⟩ = some (.slice A0 n0 c0) ∧ W.cell? ⟨w.heap.size + 1, 0, none⟩ = some (.int .i64 a1) ∧ W.cell? ⟨w.heap.size + 1, 1, none⟩ = some (.int .i64 b1) ∧ W.cell? ⟨w.heap.size + 1, 2, none⟩ = some (.slice A1 n1 c1)))
  have HRs0 : Hid (∀ (W : World), Below w2.heap.size w2 W → RI W W.heap.size A0 n0 xs0) := hide (fun W hb => ((unhide HR0).below (below_next (unhide HB2) hb)).more (below_next (unhide HB2) hb).size)
  have HRs1 : Hid (∀ (W : World), Below w2.heap.size w2 W → RI W W.heap.size A1 n1 xs1) := hide (fun W hb => ((unhide HR1).below (below_next (unhide HB2) hb)).more (below_next (unhide HB2) hb).size)
  go_cut [6, 7] (fun s6 s7 wx => ∃ (g_ : Nat) (A_ : Option Addr) (n_ c_ : Nat), s6 = .pointer (some ⟨g_, 0, none⟩) ∧ s7 = .bool r1 ∧ Hid (Whl wx g_ 27 #[.int .i64 ra0, .int .i64 rb0, .slice A_ n_ c_]) ∧ Hid (OwnI wx w2.heap.size A_ n_ c_ ys0) ∧ Hid (Below w2.heap.size w2 wx))
  case first =>
    go_region_held3 (fun w' => w'.cell? ⟨w.heap.size, 0, none⟩ = some (.int .i64 a0) ∧ w'.cell? ⟨w.heap.size, 1, none⟩ = some (.int .i64 b0) ∧ w'.cell? ⟨w.heap.size, 2, none⟩ = some (.slice A0 n0 c0) ∧ w'.cell? ⟨w.heap.size + 1, 0, none⟩ = some (.int .i64 a1) ∧ w'.cell? ⟨w.heap.size + 1, 1, none⟩ = some (.int .i64 b1) ∧ w'.cell? ⟨w.heap.size + 1, 2, none⟩ = some (.slice A1 n1 c1))
      (((with_reducible refine unhide SIX _ ?_); (repeat (first | with_reducible exact unhide HBt2 | with_reducible exact unhide HBt1 | with_reducible exact unhide HBt0 | with_reducible exact Below.refl _ _ | with_reducible exact below_set3 (unhide HBt2) (by omega) _ _ _ | with_reducible refine Below.drew ?_ | (with_reducible refine Below.alloc ?_ ?_ _; rotate_left; focus ((first | omega | (simp <;> omega)); done))))))
      (first
        | (go_at_call 14; (with_reducible show Calls _ _ #[.agg #[.int .i64 a0, .int .i64 b0, _]] _ _); refine (toTrace_any a0 b0 A0 n0 c0 xs0 _ (unhide HRs0 _ ?_) hle0).mono ?_; (focus (repeat (first | with_reducible exact unhide HBt2 | with_reducible exact unhide HBt1 | with_reducible exact unhide HBt0 | with_reducible exact Below.refl _ _ | with_reducible exact below_set3 (unhide HBt2) (by omega) _ _ _ | with_reducible refine Below.drew ?_ | (with_reducible refine Below.alloc ?_ ?_ _; rotate_left; focus ((first | omega | (simp <;> omega)); done))))); rintro e wt0 ⟨At0, nt0, ct0, rfl, hOt, hbt⟩; have HBt0 : Hid (Below w2.heap.size w2 wt0) := hide (below_next (by repeat (first | with_reducible exact unhide HBt2 | with_reducible exact unhide HBt1 | with_reducible exact unhide HBt0 | with_reducible exact Below.refl _ _ | with_reducible exact below_set3 (unhide HBt2) (by omega) _ _ _ | with_reducible refine Below.drew ?_ | (with_reducible refine Below.alloc ?_ ?_ _; rotate_left; focus ((first | omega | (simp <;> omega)); done)))) hbt); have sz0 := (unhide HBt0).size; have HOt0 : Hid (OwnI wt0 w2.heap.size At0 nt0 ct0 xs0) := hide (hOt.less (by first | omega | (simp <;> omega))); have hnt0 : nt0 ≤ 1048576 := (by have := hOt.len; have := unhide HL0; omega); have hct0 : nt0 ≤ ct0 := ownR_cap (ownR_of hOt); have HQ0 := hide (fun (W : World) (hb : Below wt0.heap.size wt0 W) => ((unhide HOt0).ri.below hb).more hb.size); (first | (have U0 : Hid (Whl wt0 w2.heap.size 27 #[.int .i64 0, .int .i64 0, .slice none 0 0]) := (by with_reducible exact hide (Whl.below (by first | with_reducible exact Whl.here _ _ _ | with_reducible exact Whl.drew (Whl.here _ _ _)) hbt))) | skip); clear hOt hbt)
        | (go_at_call 14; (with_reducible show Calls _ _ #[.agg #[.int .i64 a1, .int .i64 b1, _]] _ _); refine (toTrace_any a1 b1 A1 n1 c1 xs1 _ (unhide HRs1 _ ?_) hle1).mono ?_; (focus (repeat (first | with_reducible exact unhide HBt2 | with_reducible exact unhide HBt1 | with_reducible exact unhide HBt0 | with_reducible exact Below.refl _ _ | with_reducible exact below_set3 (unhide HBt2) (by omega) _ _ _ | with_reducible refine Below.drew ?_ | (with_reducible refine Below.alloc ?_ ?_ _; rotate_left; focus ((first | omega | (simp <;> omega)); done))))); rintro e wt1 ⟨At1, nt1, ct1, rfl, hOt, hbt⟩; have HBt1 : Hid (Below w2.heap.size w2 wt1) := hide (below_next (by repeat (first | with_reducible exact unhide HBt2 | with_reducible exact unhide HBt1 | with_reducible exact unhide HBt0 | with_reducible exact Below.refl _ _ | with_reducible exact below_set3 (unhide HBt2) (by omega) _ _ _ | with_reducible refine Below.drew ?_ | (with_reducible refine Below.alloc ?_ ?_ _; rotate_left; focus ((first | omega | (simp <;> omega)); done)))) hbt); have szp := (unhide HBt0).size; have HC01 : Hid (Below wt0.heap.size wt0 wt1) := hide (below_next (by repeat (first | with_reducible exact unhide HBt2 | with_reducible exact unhide HBt1 | with_reducible exact unhide HBt0 | with_reducible exact Below.refl _ _ | with_reducible exact below_set3 (unhide HBt2) (by omega) _ _ _ | with_reducible refine Below.drew ?_ | (with_reducible refine Below.alloc ?_ ?_ _; rotate_left; focus ((first | omega | (simp <;> omega)); done)))) hbt); have sz1 := (unhide HBt1).size; have HOt1 : Hid (OwnI wt1 w2.heap.size At1 nt1 ct1 xs1) := hide (hOt.less (by first | omega | (simp <;> omega))); have hnt1 : nt1 ≤ 1048576 := (by have := hOt.len; have := unhide HL1; omega); have hct1 : nt1 ≤ ct1 := ownR_cap (ownR_of hOt); have HQ1 := hide (fun (W : World) (hb : Below wt1.heap.size wt1 W) => ((unhide HOt1).ri.below hb).more hb.size); (first | (have U1 : Hid (Whl wt1 w2.heap.size 27 #[.int .i64 0, .int .i64 0, .slice none 0 0]) := (by with_reducible exact hide (Whl.below (unhide U0) hbt))) | (have U1 : Hid (Whl wt1 wt0.heap.size 27 #[.int .i64 0, .int .i64 0, .slice none 0 0]) := (by with_reducible exact hide (Whl.below (Whl.here wt0 27 #[.int .i64 0, .int .i64 0, .slice none 0 0]) hbt))) | skip); clear hOt hbt)
        | (go_at_call 23; refine (unhide HS _ At0 nt0 ct0 At1 nt1 ct1 hnt0 hct0 (unhide HQ0 _ ?_) hnt1 hct1 (unhide HQ1 _ ?_)).mono ?_; (focus (repeat (first | with_reducible exact unhide HC01 | with_reducible exact Below.refl _ _ | (with_reducible refine Below.alloc ?_ ?_ _; rotate_left; focus ((first | omega | exact (unhide HC01).size | exact Nat.le_refl _ | (simp <;> omega)); done))))); (focus (repeat (first | with_reducible exact unhide HC01 | with_reducible exact Below.refl _ _ | (with_reducible refine Below.alloc ?_ ?_ _; rotate_left; focus ((first | omega | exact (unhide HC01).size | exact Nat.le_refl _ | (simp <;> omega)); done))))); rintro e wt2 ⟨A_, n_, c_, rfl, hOt, hbt⟩; have szp := (unhide HBt1).size; have HBt2 : Hid (Below w2.heap.size w2 wt2) := hide (below_next (by repeat (first | with_reducible exact unhide HBt2 | with_reducible exact unhide HBt1 | with_reducible exact unhide HBt0 | with_reducible exact Below.refl _ _ | with_reducible exact below_set3 (unhide HBt2) (by omega) _ _ _ | with_reducible refine Below.drew ?_ | (with_reducible refine Below.alloc ?_ ?_ _; rotate_left; focus ((first | omega | (simp <;> omega)); done)))) hbt); have sz2 := (unhide HBt2).size; have HOt2 : Hid (OwnI wt2 w2.heap.size A_ n_ c_ ys0) := hide (hOt.less (by first | omega | (simp <;> omega))); (first | (have U2 : Hid (Whl wt2 w2.heap.size 27 #[.int .i64 0, .int .i64 0, .slice none 0 0]) := (by with_reducible exact hide (Whl.below (unhide U1) hbt)); have u0 : wt2.cell? ⟨w2.heap.size, 0, none⟩ = some (.int .i64 0) := (unhide U2).cell 0; have u1 : wt2.cell? ⟨w2.heap.size, 1, none⟩ = some (.int .i64 0) := (unhide U2).cell 1; have u2 : wt2.cell? ⟨w2.heap.size, 2, none⟩ = some (.slice none 0 0) := (unhide U2).cell 2; have uf0 : wt2.frozen? ⟨w2.heap.size, 0, none⟩ = false := (unhide U2).frozen 0; have uf1 : wt2.frozen? ⟨w2.heap.size, 1, none⟩ = false := (unhide U2).frozen 1; have uf2 : wt2.frozen? ⟨w2.heap.size, 2, none⟩ = false := (unhide U2).frozen 2; have ul := (unhide U2).lt) | (have U2 : Hid (Whl wt2 wt0.heap.size 27 #[.int .i64 0, .int .i64 0, .slice none 0 0]) := (by with_reducible exact hide (Whl.below (unhide U1) hbt)); have u0 : wt2.cell? ⟨wt0.heap.size, 0, none⟩ = some (.int .i64 0) := (unhide U2).cell 0; have u1 : wt2.cell? ⟨wt0.heap.size, 1, none⟩ = some (.int .i64 0) := (unhide U2).cell 1; have u2 : wt2.cell? ⟨wt0.heap.size, 2, none⟩ = some (.slice none 0 0) := (unhide U2).cell 2; have uf0 : wt2.frozen? ⟨wt0.heap.size, 0, none⟩ = false := (unhide U2).frozen 0; have uf1 : wt2.frozen? ⟨wt0.heap.size, 1, none⟩ = false := (unhide U2).frozen 1; have uf2 : wt2.frozen? ⟨wt0.heap.size, 2, none⟩ = false := (unhide U2).frozen 2; have ul := (unhide U2).lt) | (have U2 : Hid (Whl wt2 wt1.heap.size 27 #[.int .i64 0, .int .i64 0, .slice none 0 0]) := (by with_reducible exact hide (Whl.below (Whl.here wt1 27 #[.int .i64 0, .int .i64 0, .slice none 0 0]) hbt)); have u0 : wt2.cell? ⟨wt1.heap.size, 0, none⟩ = some (.int .i64 0) := (unhide U2).cell 0; have u1 : wt2.cell? ⟨wt1.heap.size, 1, none⟩ = some (.int .i64 0) := (unhide U2).cell 1; have u2 : wt2.cell? ⟨wt1.heap.size, 2, none⟩ = some (.slice none 0 0) := (unhide U2).cell 2; have uf0 : wt2.frozen? ⟨wt1.heap.size, 0, none⟩ = false := (unhide U2).frozen 0; have uf1 : wt2.frozen? ⟨wt1.heap.size, 1, none⟩ = false := (unhide U2).frozen 1; have uf2 : wt2.frozen? ⟨wt1.heap.size, 2, none⟩ = false := (unhide U2).frozen 2; have ul := (unhide U2).lt) | skip); clear hOt hbt))
    all_goals
      go_wp2_with fail
      go_meet
      first | exact ⟨_, A_, n_, c_, rfl, rfl, hide (Whl.here _ _ _), (unhide HOt2).alloc _, (unhide HBt2).alloc sz2 _⟩ | exact ⟨_, A_, n_, c_, rfl, rfl, hide ((((unhide U2).store 0 _).store 1 _).store 2 _), own3 (unhide HOt2) (unhide U2) trace_ne_int' _ _ _, below_set3 (unhide HBt2) (by omega) _ _ _⟩
  case rest =>
    obtain ⟨g_w0, A_w0, n_w0, c_w0, rfl, rfl, hU, hO, hB⟩ := hcut
    generalize wc = w3 at *
    have hn_w0 : n_w0 ≤ 2097152 := by have := (unhide hO).len; have := unhide HY0; omega
    have hb3 := unhide hB
    have hP3_0 := unhide hO
    clear SIX HRs0 HRs1 hB
    have hq3 := hb3
    have z3 : w2.heap.size + 0 ≤ w3.heap.size := by have := hb3.size; (try simp at this); omega
    have HB3 := hide ((unhide HB2).trans (hq3.mono (unhide HB2).size))
    have ma0_0_3 : w3.cell? ⟨w.heap.size, 0, none⟩ = some (.int .i64 a0) := (hq3.cell (p := ⟨w.heap.size, 0, none⟩) la0_2).trans ma0_0_2
    have ma0_1_3 : w3.cell? ⟨w.heap.size, 1, none⟩ = some (.int .i64 b0) := (hq3.cell (p := ⟨w.heap.size, 1, none⟩) la0_2).trans ma0_1_2
    have ma0_2_3 : w3.cell? ⟨w.heap.size, 2, none⟩ = some (.slice A0 n0 c0) := (hq3.cell (p := ⟨w.heap.size, 2, none⟩) la0_2).trans ma0_2_2
    have la0_3 : w.heap.size < w3.heap.size := Nat.lt_of_lt_of_le la0_2 hq3.size
    clear ma0_0_2 ma0_1_2 ma0_2_2 la0_2 
    have ma1_0_3 : w3.cell? ⟨w.heap.size + 1, 0, none⟩ = some (.int .i64 a1) := (hq3.cell (p := ⟨w.heap.size + 1, 0, none⟩) la1_2).trans ma1_0_2
    have ma1_1_3 : w3.cell? ⟨w.heap.size + 1, 1, none⟩ = some (.int .i64 b1) := (hq3.cell (p := ⟨w.heap.size + 1, 1, none⟩) la1_2).trans ma1_1_2
    have ma1_2_3 : w3.cell? ⟨w.heap.size + 1, 2, none⟩ = some (.slice A1 n1 c1) := (hq3.cell (p := ⟨w.heap.size + 1, 2, none⟩) la1_2).trans ma1_2_2
    have la1_3 : w.heap.size + 1 < w3.heap.size := Nat.lt_of_lt_of_le la1_2 hq3.size
    clear ma1_0_2 ma1_1_2 ma1_2_2 la1_2 
    clear hb3 hq3 HB2
    have Ow0_3 := hide (ownR_of (hP3_0))
    clear hP3_0
    have Uw0_3 := hU
    clear hU
    have vw0_0_1 : w3.cell? ⟨g_w0, 0, none⟩ = some (.int .i64 ra0) := (unhide Uw0_3).cell 0
    have vw0_1_1 : w3.cell? ⟨g_w0, 1, none⟩ = some (.int .i64 rb0) := (unhide Uw0_3).cell 1
    have vw0_2_1 : w3.cell? ⟨g_w0, 2, none⟩ = some (.slice A_w0 n_w0 c_w0) := (unhide Uw0_3).cell 2
    have vlw0_1 := (unhide Uw0_3).lt
    go_wp2_with fail
    refine (toTrace_any a0 b0 A0 n0 c0 xs0 _ (((unhide HR0).below (unhide HB3)).more (unhide HB3).size) hle0).mono ?_
    rintro e w4 ⟨A_x0, n_x0, c_x0, rfl, hO4, hb4⟩
    have hn_x0 : n_x0 ≤ 1048576 := by have := hO4.len; have := unhide HL0; omega
    have hP4 : OwnI w4 (w3.heap.size + 0) A_x0 n_x0 c_x0 xs0 := hO4.less (by simp)
    clear hO4
    have hq4 := hb4
    have z4 : w3.heap.size + 0 ≤ w4.heap.size := by have := hb4.size; (try simp at this); omega
    have HB4 := hide ((unhide HB3).trans (hq4.mono (unhide HB3).size))
    have Ow0_4 := hide ((unhide Ow0_3).below hq4 (Nat.le_refl _))
    clear Ow0_3
    have ma0_0_4 : w4.cell? ⟨w.heap.size, 0, none⟩ = some (.int .i64 a0) := (hq4.cell (p := ⟨w.heap.size, 0, none⟩) la0_3).trans ma0_0_3
    have ma0_1_4 : w4.cell? ⟨w.heap.size, 1, none⟩ = some (.int .i64 b0) := (hq4.cell (p := ⟨w.heap.size, 1, none⟩) la0_3).trans ma0_1_3
    have ma0_2_4 : w4.cell? ⟨w.heap.size, 2, none⟩ = some (.slice A0 n0 c0) := (hq4.cell (p := ⟨w.heap.size, 2, none⟩) la0_3).trans ma0_2_3
    have la0_4 : w.heap.size < w4.heap.size := Nat.lt_of_lt_of_le la0_3 hq4.size
    clear ma0_0_3 ma0_1_3 ma0_2_3 la0_3 
    have ma1_0_4 : w4.cell? ⟨w.heap.size + 1, 0, none⟩ = some (.int .i64 a1) := (hq4.cell (p := ⟨w.heap.size + 1, 0, none⟩) la1_3).trans ma1_0_3
    have ma1_1_4 : w4.cell? ⟨w.heap.size + 1, 1, none⟩ = some (.int .i64 b1) := (hq4.cell (p := ⟨w.heap.size + 1, 1, none⟩) la1_3).trans ma1_1_3
    have ma1_2_4 : w4.cell? ⟨w.heap.size + 1, 2, none⟩ = some (.slice A1 n1 c1) := (hq4.cell (p := ⟨w.heap.size + 1, 2, none⟩) la1_3).trans ma1_2_3
    have la1_4 : w.heap.size + 1 < w4.heap.size := Nat.lt_of_lt_of_le la1_3 hq4.size
    clear ma1_0_3 ma1_1_3 ma1_2_3 la1_3 
    have Uw0_4 := hide ((unhide Uw0_3).below hq4)
    clear Uw0_3 vw0_0_1 vw0_1_1 vw0_2_1 vlw0_1
    have vw0_0_2 : w4.cell? ⟨g_w0, 0, none⟩ = some (.int .i64 ra0) := (unhide Uw0_4).cell 0
    have vw0_1_2 : w4.cell? ⟨g_w0, 1, none⟩ = some (.int .i64 rb0) := (unhide Uw0_4).cell 1
    have vw0_2_2 : w4.cell? ⟨g_w0, 2, none⟩ = some (.slice A_w0 n_w0 c_w0) := (unhide Uw0_4).cell 2
    have vlw0_2 := (unhide Uw0_4).lt
    clear hb4 hq4 HB3
    have Ox0_4 := hide (ownR_of (hP4))
    clear hP4
    have qa0_0_4 : ∀ o : Obj, (w4.alloc o).cell? ⟨w.heap.size, 0, none⟩ = some (.int .i64 a0) := fun o => (World.cell?_alloc_lt w4 o ⟨w.heap.size, 0, none⟩ la0_4).trans ma0_0_4
    have qa0_1_4 : ∀ o : Obj, (w4.alloc o).cell? ⟨w.heap.size, 1, none⟩ = some (.int .i64 b0) := fun o => (World.cell?_alloc_lt w4 o ⟨w.heap.size, 1, none⟩ la0_4).trans ma0_1_4
    have qa0_2_4 : ∀ o : Obj, (w4.alloc o).cell? ⟨w.heap.size, 2, none⟩ = some (.slice A0 n0 c0) := fun o => (World.cell?_alloc_lt w4 o ⟨w.heap.size, 2, none⟩ la0_4).trans ma0_2_4
    have qa1_0_4 : ∀ o : Obj, (w4.alloc o).cell? ⟨w.heap.size + 1, 0, none⟩ = some (.int .i64 a1) := fun o => (World.cell?_alloc_lt w4 o ⟨w.heap.size + 1, 0, none⟩ la1_4).trans ma1_0_4
    have qa1_1_4 : ∀ o : Obj, (w4.alloc o).cell? ⟨w.heap.size + 1, 1, none⟩ = some (.int .i64 b1) := fun o => (World.cell?_alloc_lt w4 o ⟨w.heap.size + 1, 1, none⟩ la1_4).trans ma1_1_4
    have qa1_2_4 : ∀ o : Obj, (w4.alloc o).cell? ⟨w.heap.size + 1, 2, none⟩ = some (.slice A1 n1 c1) := fun o => (World.cell?_alloc_lt w4 o ⟨w.heap.size + 1, 2, none⟩ la1_4).trans ma1_2_4
    have qw0_0_4 : ∀ o : Obj, (w4.alloc o).cell? ⟨g_w0, 0, none⟩ = some (.int .i64 ra0) := fun o => (World.cell?_alloc_lt w4 o ⟨g_w0, 0, none⟩ vlw0_2).trans vw0_0_2
    have qw0_1_4 : ∀ o : Obj, (w4.alloc o).cell? ⟨g_w0, 1, none⟩ = some (.int .i64 rb0) := fun o => (World.cell?_alloc_lt w4 o ⟨g_w0, 1, none⟩ vlw0_2).trans vw0_1_2
    have qw0_2_4 : ∀ o : Obj, (w4.alloc o).cell? ⟨g_w0, 2, none⟩ = some (.slice A_w0 n_w0 c_w0) := fun o => (World.cell?_alloc_lt w4 o ⟨g_w0, 2, none⟩ vlw0_2).trans vw0_2_2
    go_wp2_with fail
    refine (toTrace_any a1 b1 A1 n1 c1 xs1 _ (((((unhide HR1).below (unhide HB4)).more (unhide HB4).size).alloc (Nat.le_refl _) _).more (by simp)) hle1).mono ?_
    rintro e w5 ⟨A_x1, n_x1, c_x1, rfl, hO5, hb5⟩
    have hn_x1 : n_x1 ≤ 1048576 := by have := hO5.len; have := unhide HL1; omega
    have hP5 : OwnI w5 (w4.heap.size + 1) A_x1 n_x1 c_x1 xs1 := hO5.less (by simp)
    clear hO5
    have hq5 : Below w4.heap.size w4 w5 := (((Below.refl _ w4)).alloc (by simp <;> omega) _).trans (hb5.mono (by simp <;> omega))
    have z5 : w4.heap.size + 1 ≤ w5.heap.size := by have := hb5.size; (try simp at this); omega
    have HB5 := hide ((unhide HB4).trans (hq5.mono (unhide HB4).size))
    have Ow0_5 := hide ((unhide Ow0_4).below hq5 (Nat.le_refl _))
    clear Ow0_4
    have Ox0_5 := hide ((unhide Ox0_4).below hq5 (Nat.le_refl _))
    clear Ox0_4
    have ma0_0_5 : w5.cell? ⟨w.heap.size, 0, none⟩ = some (.int .i64 a0) := (hq5.cell (p := ⟨w.heap.size, 0, none⟩) la0_4).trans ma0_0_4
    have ma0_1_5 : w5.cell? ⟨w.heap.size, 1, none⟩ = some (.int .i64 b0) := (hq5.cell (p := ⟨w.heap.size, 1, none⟩) la0_4).trans ma0_1_4
    have ma0_2_5 : w5.cell? ⟨w.heap.size, 2, none⟩ = some (.slice A0 n0 c0) := (hq5.cell (p := ⟨w.heap.size, 2, none⟩) la0_4).trans ma0_2_4
    have la0_5 : w.heap.size < w5.heap.size := Nat.lt_of_lt_of_le la0_4 hq5.size
    clear ma0_0_4 ma0_1_4 ma0_2_4 la0_4 qa0_0_4 qa0_1_4 qa0_2_4
    have ma1_0_5 : w5.cell? ⟨w.heap.size + 1, 0, none⟩ = some (.int .i64 a1) := (hq5.cell (p := ⟨w.heap.size + 1, 0, none⟩) la1_4).trans ma1_0_4
    have ma1_1_5 : w5.cell? ⟨w.heap.size + 1, 1, none⟩ = some (.int .i64 b1) := (hq5.cell (p := ⟨w.heap.size + 1, 1, none⟩) la1_4).trans ma1_1_4
    have ma1_2_5 : w5.cell? ⟨w.heap.size + 1, 2, none⟩ = some (.slice A1 n1 c1) := (hq5.cell (p := ⟨w.heap.size + 1, 2, none⟩) la1_4).trans ma1_2_4
    have la1_5 : w.heap.size + 1 < w5.heap.size := Nat.lt_of_lt_of_le la1_4 hq5.size
    clear ma1_0_4 ma1_1_4 ma1_2_4 la1_4 qa1_0_4 qa1_1_4 qa1_2_4
    have Uw0_5 := hide ((unhide Uw0_4).below hq5)
    clear Uw0_4 vw0_0_2 vw0_1_2 vw0_2_2 vlw0_2
    clear qw0_0_4 qw0_1_4 qw0_2_4
    have vw0_0_3 : w5.cell? ⟨g_w0, 0, none⟩ = some (.int .i64 ra0) := (unhide Uw0_5).cell 0
    have vw0_1_3 : w5.cell? ⟨g_w0, 1, none⟩ = some (.int .i64 rb0) := (unhide Uw0_5).cell 1
    have vw0_2_3 : w5.cell? ⟨g_w0, 2, none⟩ = some (.slice A_w0 n_w0 c_w0) := (unhide Uw0_5).cell 2
    have vlw0_3 := (unhide Uw0_5).lt
    have mx0_0_5 : w5.cell? ⟨w4.heap.size, 0, none⟩ = some (.int .i64 a0) := (hb5.cell (p := ⟨w4.heap.size, 0, none⟩) (by simp <;> omega)).trans (by simp)
    have mx0_1_5 : w5.cell? ⟨w4.heap.size, 1, none⟩ = some (.int .i64 b0) := (hb5.cell (p := ⟨w4.heap.size, 1, none⟩) (by simp <;> omega)).trans (by simp)
    have mx0_2_5 : w5.cell? ⟨w4.heap.size, 2, none⟩ = some (.slice A_x0 n_x0 c_x0) := (hb5.cell (p := ⟨w4.heap.size, 2, none⟩) (by simp <;> omega)).trans (by simp)
    have lx0_5 : w4.heap.size < w5.heap.size := by omega
    clear hb5 hq5 HB4
    have Ox1_5 := hide (ownR_of (hP5))
    clear hP5
    have qa0_0_5 : ∀ o : Obj, (w5.alloc o).cell? ⟨w.heap.size, 0, none⟩ = some (.int .i64 a0) := fun o => (World.cell?_alloc_lt w5 o ⟨w.heap.size, 0, none⟩ la0_5).trans ma0_0_5
    have qa0_1_5 : ∀ o : Obj, (w5.alloc o).cell? ⟨w.heap.size, 1, none⟩ = some (.int .i64 b0) := fun o => (World.cell?_alloc_lt w5 o ⟨w.heap.size, 1, none⟩ la0_5).trans ma0_1_5
    have qa0_2_5 : ∀ o : Obj, (w5.alloc o).cell? ⟨w.heap.size, 2, none⟩ = some (.slice A0 n0 c0) := fun o => (World.cell?_alloc_lt w5 o ⟨w.heap.size, 2, none⟩ la0_5).trans ma0_2_5
    have qa1_0_5 : ∀ o : Obj, (w5.alloc o).cell? ⟨w.heap.size + 1, 0, none⟩ = some (.int .i64 a1) := fun o => (World.cell?_alloc_lt w5 o ⟨w.heap.size + 1, 0, none⟩ la1_5).trans ma1_0_5
    have qa1_1_5 : ∀ o : Obj, (w5.alloc o).cell? ⟨w.heap.size + 1, 1, none⟩ = some (.int .i64 b1) := fun o => (World.cell?_alloc_lt w5 o ⟨w.heap.size + 1, 1, none⟩ la1_5).trans ma1_1_5
    have qa1_2_5 : ∀ o : Obj, (w5.alloc o).cell? ⟨w.heap.size + 1, 2, none⟩ = some (.slice A1 n1 c1) := fun o => (World.cell?_alloc_lt w5 o ⟨w.heap.size + 1, 2, none⟩ la1_5).trans ma1_2_5
    have qw0_0_5 : ∀ o : Obj, (w5.alloc o).cell? ⟨g_w0, 0, none⟩ = some (.int .i64 ra0) := fun o => (World.cell?_alloc_lt w5 o ⟨g_w0, 0, none⟩ vlw0_3).trans vw0_0_3
    have qw0_1_5 : ∀ o : Obj, (w5.alloc o).cell? ⟨g_w0, 1, none⟩ = some (.int .i64 rb0) := fun o => (World.cell?_alloc_lt w5 o ⟨g_w0, 1, none⟩ vlw0_3).trans vw0_1_3
    have qw0_2_5 : ∀ o : Obj, (w5.alloc o).cell? ⟨g_w0, 2, none⟩ = some (.slice A_w0 n_w0 c_w0) := fun o => (World.cell?_alloc_lt w5 o ⟨g_w0, 2, none⟩ vlw0_3).trans vw0_2_3
    have qx0_0_5 : ∀ o : Obj, (w5.alloc o).cell? ⟨w4.heap.size, 0, none⟩ = some (.int .i64 a0) := fun o => (World.cell?_alloc_lt w5 o ⟨w4.heap.size, 0, none⟩ lx0_5).trans mx0_0_5
    have qx0_1_5 : ∀ o : Obj, (w5.alloc o).cell? ⟨w4.heap.size, 1, none⟩ = some (.int .i64 b0) := fun o => (World.cell?_alloc_lt w5 o ⟨w4.heap.size, 1, none⟩ lx0_5).trans mx0_1_5
    have qx0_2_5 : ∀ o : Obj, (w5.alloc o).cell? ⟨w4.heap.size, 2, none⟩ = some (.slice A_x0 n_x0 c_x0) := fun o => (World.cell?_alloc_lt w5 o ⟨w4.heap.size, 2, none⟩ lx0_5).trans mx0_2_5
    go_wp2_with fail
    refine (unhide HI _ A_x0 n_x0 c_x0 A_x1 n_x1 c_x1 hn_x0 (ownR_cap (unhide Ox0_5)) ((((unhide Ox0_5).ri).alloc (Nat.le_refl _) _).more (by simp)) hn_x1 (ownR_cap (unhide Ox1_5)) ((((unhide Ox1_5).ri).alloc (Nat.le_refl _) _).more (by simp))).mono ?_
    rintro e w6 ⟨A_g0, n_g0, c_g0, rfl, hO6_0, hb6⟩
    have hn_g0 : n_g0 ≤ 2097152 := by have := hO6_0.len; have := unhide HY0; omega
    have hP6_0 : OwnI w6 (w5.heap.size + 1) A_g0 n_g0 c_g0 ys0 := hO6_0.less (by simp)
    clear hO6_0
    have hq6 : Below w5.heap.size w5 w6 := (((Below.refl _ w5)).alloc (by simp <;> omega) _).trans (hb6.mono (by simp <;> omega))
    have z6 : w5.heap.size + 1 ≤ w6.heap.size := by have := hb6.size; (try simp at this); omega
    have HB6 := hide ((unhide HB5).trans (hq6.mono (unhide HB5).size))
    have Ow0_6 := hide ((unhide Ow0_5).below hq6 (Nat.le_refl _))
    clear Ow0_5
    have Ox0_6 := hide ((unhide Ox0_5).below hq6 (Nat.le_refl _))
    clear Ox0_5
    have Ox1_6 := hide ((unhide Ox1_5).below hq6 (Nat.le_refl _))
    clear Ox1_5
    have ma0_0_6 : w6.cell? ⟨w.heap.size, 0, none⟩ = some (.int .i64 a0) := (hq6.cell (p := ⟨w.heap.size, 0, none⟩) la0_5).trans ma0_0_5
    have ma0_1_6 : w6.cell? ⟨w.heap.size, 1, none⟩ = some (.int .i64 b0) := (hq6.cell (p := ⟨w.heap.size, 1, none⟩) la0_5).trans ma0_1_5
    have ma0_2_6 : w6.cell? ⟨w.heap.size, 2, none⟩ = some (.slice A0 n0 c0) := (hq6.cell (p := ⟨w.heap.size, 2, none⟩) la0_5).trans ma0_2_5
    have la0_6 : w.heap.size < w6.heap.size := Nat.lt_of_lt_of_le la0_5 hq6.size
    clear ma0_0_5 ma0_1_5 ma0_2_5 la0_5 qa0_0_5 qa0_1_5 qa0_2_5
    have ma1_0_6 : w6.cell? ⟨w.heap.size + 1, 0, none⟩ = some (.int .i64 a1) := (hq6.cell (p := ⟨w.heap.size + 1, 0, none⟩) la1_5).trans ma1_0_5
    have ma1_1_6 : w6.cell? ⟨w.heap.size + 1, 1, none⟩ = some (.int .i64 b1) := (hq6.cell (p := ⟨w.heap.size + 1, 1, none⟩) la1_5).trans ma1_1_5
    have ma1_2_6 : w6.cell? ⟨w.heap.size + 1, 2, none⟩ = some (.slice A1 n1 c1) := (hq6.cell (p := ⟨w.heap.size + 1, 2, none⟩) la1_5).trans ma1_2_5
    have la1_6 : w.heap.size + 1 < w6.heap.size := Nat.lt_of_lt_of_le la1_5 hq6.size
    clear ma1_0_5 ma1_1_5 ma1_2_5 la1_5 qa1_0_5 qa1_1_5 qa1_2_5
    have Uw0_6 := hide ((unhide Uw0_5).below hq6)
    clear Uw0_5 vw0_0_3 vw0_1_3 vw0_2_3 vlw0_3
    clear qw0_0_5 qw0_1_5 qw0_2_5
    have vw0_0_4 : w6.cell? ⟨g_w0, 0, none⟩ = some (.int .i64 ra0) := (unhide Uw0_6).cell 0
    have vw0_1_4 : w6.cell? ⟨g_w0, 1, none⟩ = some (.int .i64 rb0) := (unhide Uw0_6).cell 1
    have vw0_2_4 : w6.cell? ⟨g_w0, 2, none⟩ = some (.slice A_w0 n_w0 c_w0) := (unhide Uw0_6).cell 2
    have vlw0_4 := (unhide Uw0_6).lt
    have mx0_0_6 : w6.cell? ⟨w4.heap.size, 0, none⟩ = some (.int .i64 a0) := (hq6.cell (p := ⟨w4.heap.size, 0, none⟩) lx0_5).trans mx0_0_5
    have mx0_1_6 : w6.cell? ⟨w4.heap.size, 1, none⟩ = some (.int .i64 b0) := (hq6.cell (p := ⟨w4.heap.size, 1, none⟩) lx0_5).trans mx0_1_5
    have mx0_2_6 : w6.cell? ⟨w4.heap.size, 2, none⟩ = some (.slice A_x0 n_x0 c_x0) := (hq6.cell (p := ⟨w4.heap.size, 2, none⟩) lx0_5).trans mx0_2_5
    have lx0_6 : w4.heap.size < w6.heap.size := Nat.lt_of_lt_of_le lx0_5 hq6.size
    clear mx0_0_5 mx0_1_5 mx0_2_5 lx0_5 qx0_0_5 qx0_1_5 qx0_2_5
    have mx1_0_6 : w6.cell? ⟨w5.heap.size, 0, none⟩ = some (.int .i64 a1) := (hb6.cell (p := ⟨w5.heap.size, 0, none⟩) (by simp <;> omega)).trans (by simp)
    have mx1_1_6 : w6.cell? ⟨w5.heap.size, 1, none⟩ = some (.int .i64 b1) := (hb6.cell (p := ⟨w5.heap.size, 1, none⟩) (by simp <;> omega)).trans (by simp)
    have mx1_2_6 : w6.cell? ⟨w5.heap.size, 2, none⟩ = some (.slice A_x1 n_x1 c_x1) := (hb6.cell (p := ⟨w5.heap.size, 2, none⟩) (by simp <;> omega)).trans (by simp)
    have lx1_6 : w5.heap.size < w6.heap.size := by omega
    clear hb6 hq6 HB5
    have Og0_6 := hide (ownR_of (hP6_0))
    clear hP6_0
    have qa0_0_6 : ∀ o : Obj, (w6.alloc o).cell? ⟨w.heap.size, 0, none⟩ = some (.int .i64 a0) := fun o => (World.cell?_alloc_lt w6 o ⟨w.heap.size, 0, none⟩ la0_6).trans ma0_0_6
    have qa0_1_6 : ∀ o : Obj, (w6.alloc o).cell? ⟨w.heap.size, 1, none⟩ = some (.int .i64 b0) := fun o => (World.cell?_alloc_lt w6 o ⟨w.heap.size, 1, none⟩ la0_6).trans ma0_1_6
    have qa0_2_6 : ∀ o : Obj, (w6.alloc o).cell? ⟨w.heap.size, 2, none⟩ = some (.slice A0 n0 c0) := fun o => (World.cell?_alloc_lt w6 o ⟨w.heap.size, 2, none⟩ la0_6).trans ma0_2_6
    have qa1_0_6 : ∀ o : Obj, (w6.alloc o).cell? ⟨w.heap.size + 1, 0, none⟩ = some (.int .i64 a1) := fun o => (World.cell?_alloc_lt w6 o ⟨w.heap.size + 1, 0, none⟩ la1_6).trans ma1_0_6
    have qa1_1_6 : ∀ o : Obj, (w6.alloc o).cell? ⟨w.heap.size + 1, 1, none⟩ = some (.int .i64 b1) := fun o => (World.cell?_alloc_lt w6 o ⟨w.heap.size + 1, 1, none⟩ la1_6).trans ma1_1_6
    have qa1_2_6 : ∀ o : Obj, (w6.alloc o).cell? ⟨w.heap.size + 1, 2, none⟩ = some (.slice A1 n1 c1) := fun o => (World.cell?_alloc_lt w6 o ⟨w.heap.size + 1, 2, none⟩ la1_6).trans ma1_2_6
    have qw0_0_6 : ∀ o : Obj, (w6.alloc o).cell? ⟨g_w0, 0, none⟩ = some (.int .i64 ra0) := fun o => (World.cell?_alloc_lt w6 o ⟨g_w0, 0, none⟩ vlw0_4).trans vw0_0_4
    have qw0_1_6 : ∀ o : Obj, (w6.alloc o).cell? ⟨g_w0, 1, none⟩ = some (.int .i64 rb0) := fun o => (World.cell?_alloc_lt w6 o ⟨g_w0, 1, none⟩ vlw0_4).trans vw0_1_4
    have qw0_2_6 : ∀ o : Obj, (w6.alloc o).cell? ⟨g_w0, 2, none⟩ = some (.slice A_w0 n_w0 c_w0) := fun o => (World.cell?_alloc_lt w6 o ⟨g_w0, 2, none⟩ vlw0_4).trans vw0_2_4
    have qx0_0_6 : ∀ o : Obj, (w6.alloc o).cell? ⟨w4.heap.size, 0, none⟩ = some (.int .i64 a0) := fun o => (World.cell?_alloc_lt w6 o ⟨w4.heap.size, 0, none⟩ lx0_6).trans mx0_0_6
    have qx0_1_6 : ∀ o : Obj, (w6.alloc o).cell? ⟨w4.heap.size, 1, none⟩ = some (.int .i64 b0) := fun o => (World.cell?_alloc_lt w6 o ⟨w4.heap.size, 1, none⟩ lx0_6).trans mx0_1_6
    have qx0_2_6 : ∀ o : Obj, (w6.alloc o).cell? ⟨w4.heap.size, 2, none⟩ = some (.slice A_x0 n_x0 c_x0) := fun o => (World.cell?_alloc_lt w6 o ⟨w4.heap.size, 2, none⟩ lx0_6).trans mx0_2_6
    have qx1_0_6 : ∀ o : Obj, (w6.alloc o).cell? ⟨w5.heap.size, 0, none⟩ = some (.int .i64 a1) := fun o => (World.cell?_alloc_lt w6 o ⟨w5.heap.size, 0, none⟩ lx1_6).trans mx1_0_6
    have qx1_1_6 : ∀ o : Obj, (w6.alloc o).cell? ⟨w5.heap.size, 1, none⟩ = some (.int .i64 b1) := fun o => (World.cell?_alloc_lt w6 o ⟨w5.heap.size, 1, none⟩ lx1_6).trans mx1_1_6
    have qx1_2_6 : ∀ o : Obj, (w6.alloc o).cell? ⟨w5.heap.size, 2, none⟩ = some (.slice A_x1 n_x1 c_x1) := fun o => (World.cell?_alloc_lt w6 o ⟨w5.heap.size, 2, none⟩ lx1_6).trans mx1_2_6
    go_wp2_with fail
    refine (eqTrace_any ra0 rb0 ra0 rb0 A_g0 A_w0 n_g0 n_w0 c_g0 c_w0 ys0 ys0 _ ((((unhide Og0_6).ri).alloc (Nat.le_refl _) _).more (by simp)) ((((unhide Ow0_6).ri).alloc (Nat.le_refl _) _).more (by simp)) (unhide Og0_6).max (unhide Ow0_6).max).mono ?_
    rintro e w7 ⟨rfl, hb7⟩
    have hq7 : Below w6.heap.size w6 w7 := (((Below.refl _ w6)).alloc (by simp <;> omega) _).trans (hb7.mono (by simp <;> omega))
    have z7 : w6.heap.size + 1 ≤ w7.heap.size := by have := hb7.size; (try simp at this); omega
    have HB7 := hide ((unhide HB6).trans (hq7.mono (unhide HB6).size))
    have Ow0_7 := hide ((unhide Ow0_6).below hq7 (Nat.le_refl _))
    clear Ow0_6
    have Ox0_7 := hide ((unhide Ox0_6).below hq7 (Nat.le_refl _))
    clear Ox0_6
    have Ox1_7 := hide ((unhide Ox1_6).below hq7 (Nat.le_refl _))
    clear Ox1_6
    have Og0_7 := hide ((unhide Og0_6).below hq7 (Nat.le_refl _))
    clear Og0_6
    have ma0_0_7 : w7.cell? ⟨w.heap.size, 0, none⟩ = some (.int .i64 a0) := (hq7.cell (p := ⟨w.heap.size, 0, none⟩) la0_6).trans ma0_0_6
    have ma0_1_7 : w7.cell? ⟨w.heap.size, 1, none⟩ = some (.int .i64 b0) := (hq7.cell (p := ⟨w.heap.size, 1, none⟩) la0_6).trans ma0_1_6
    have ma0_2_7 : w7.cell? ⟨w.heap.size, 2, none⟩ = some (.slice A0 n0 c0) := (hq7.cell (p := ⟨w.heap.size, 2, none⟩) la0_6).trans ma0_2_6
    have la0_7 : w.heap.size < w7.heap.size := Nat.lt_of_lt_of_le la0_6 hq7.size
    clear ma0_0_6 ma0_1_6 ma0_2_6 la0_6 qa0_0_6 qa0_1_6 qa0_2_6
    have ma1_0_7 : w7.cell? ⟨w.heap.size + 1, 0, none⟩ = some (.int .i64 a1) := (hq7.cell (p := ⟨w.heap.size + 1, 0, none⟩) la1_6).trans ma1_0_6
    have ma1_1_7 : w7.cell? ⟨w.heap.size + 1, 1, none⟩ = some (.int .i64 b1) := (hq7.cell (p := ⟨w.heap.size + 1, 1, none⟩) la1_6).trans ma1_1_6
    have ma1_2_7 : w7.cell? ⟨w.heap.size + 1, 2, none⟩ = some (.slice A1 n1 c1) := (hq7.cell (p := ⟨w.heap.size + 1, 2, none⟩) la1_6).trans ma1_2_6
    have la1_7 : w.heap.size + 1 < w7.heap.size := Nat.lt_of_lt_of_le la1_6 hq7.size
    clear ma1_0_6 ma1_1_6 ma1_2_6 la1_6 qa1_0_6 qa1_1_6 qa1_2_6
    have Uw0_7 := hide ((unhide Uw0_6).below hq7)
    clear Uw0_6 vw0_0_4 vw0_1_4 vw0_2_4 vlw0_4
    clear qw0_0_6 qw0_1_6 qw0_2_6
    have vw0_0_5 : w7.cell? ⟨g_w0, 0, none⟩ = some (.int .i64 ra0) := (unhide Uw0_7).cell 0
    have vw0_1_5 : w7.cell? ⟨g_w0, 1, none⟩ = some (.int .i64 rb0) := (unhide Uw0_7).cell 1
    have vw0_2_5 : w7.cell? ⟨g_w0, 2, none⟩ = some (.slice A_w0 n_w0 c_w0) := (unhide Uw0_7).cell 2
    have vlw0_5 := (unhide Uw0_7).lt
    have mx0_0_7 : w7.cell? ⟨w4.heap.size, 0, none⟩ = some (.int .i64 a0) := (hq7.cell (p := ⟨w4.heap.size, 0, none⟩) lx0_6).trans mx0_0_6
    have mx0_1_7 : w7.cell? ⟨w4.heap.size, 1, none⟩ = some (.int .i64 b0) := (hq7.cell (p := ⟨w4.heap.size, 1, none⟩) lx0_6).trans mx0_1_6
    have mx0_2_7 : w7.cell? ⟨w4.heap.size, 2, none⟩ = some (.slice A_x0 n_x0 c_x0) := (hq7.cell (p := ⟨w4.heap.size, 2, none⟩) lx0_6).trans mx0_2_6
    have lx0_7 : w4.heap.size < w7.heap.size := Nat.lt_of_lt_of_le lx0_6 hq7.size
    clear mx0_0_6 mx0_1_6 mx0_2_6 lx0_6 qx0_0_6 qx0_1_6 qx0_2_6
    have mx1_0_7 : w7.cell? ⟨w5.heap.size, 0, none⟩ = some (.int .i64 a1) := (hq7.cell (p := ⟨w5.heap.size, 0, none⟩) lx1_6).trans mx1_0_6
    have mx1_1_7 : w7.cell? ⟨w5.heap.size, 1, none⟩ = some (.int .i64 b1) := (hq7.cell (p := ⟨w5.heap.size, 1, none⟩) lx1_6).trans mx1_1_6
    have mx1_2_7 : w7.cell? ⟨w5.heap.size, 2, none⟩ = some (.slice A_x1 n_x1 c_x1) := (hq7.cell (p := ⟨w5.heap.size, 2, none⟩) lx1_6).trans mx1_2_6
    have lx1_7 : w5.heap.size < w7.heap.size := Nat.lt_of_lt_of_le lx1_6 hq7.size
    clear mx1_0_6 mx1_1_6 mx1_2_6 lx1_6 qx1_0_6 qx1_1_6 qx1_2_6
    have mg0_0_7 : w7.cell? ⟨w6.heap.size, 0, none⟩ = some (.int .i64 ra0) := (hb7.cell (p := ⟨w6.heap.size, 0, none⟩) (by simp <;> omega)).trans (by simp)
    have mg0_1_7 : w7.cell? ⟨w6.heap.size, 1, none⟩ = some (.int .i64 rb0) := (hb7.cell (p := ⟨w6.heap.size, 1, none⟩) (by simp <;> omega)).trans (by simp)
    have mg0_2_7 : w7.cell? ⟨w6.heap.size, 2, none⟩ = some (.slice A_g0 n_g0 c_g0) := (hb7.cell (p := ⟨w6.heap.size, 2, none⟩) (by simp <;> omega)).trans (by simp)
    have lg0_7 : w6.heap.size < w7.heap.size := by omega
    clear hb7 hq7 HB6
    go_wp2_with fail
    go_region_held3 (fun w' => w'.cell? ⟨w4.heap.size, 0, none⟩ = some (.int .i64 a0) ∧ w'.cell? ⟨w4.heap.size, 1, none⟩ = some (.int .i64 b0) ∧ w'.cell? ⟨w4.heap.size, 2, none⟩ = some (.slice A_x0 n_x0 c_x0) ∧ w'.cell? ⟨w.heap.size, 0, none⟩ = some (.int .i64 a0) ∧ w'.cell? ⟨w.heap.size, 1, none⟩ = some (.int .i64 b0) ∧ w'.cell? ⟨w.heap.size, 2, none⟩ = some (.slice A0 n0 c0))
      (first | go_keep | exact ⟨(hby.cell (p := ⟨w4.heap.size, 0, none⟩) lx0_7).trans mx0_0_7, (hby.cell (p := ⟨w4.heap.size, 1, none⟩) lx0_7).trans mx0_1_7, (hby.cell (p := ⟨w4.heap.size, 2, none⟩) lx0_7).trans mx0_2_7, (hby.cell (p := ⟨w.heap.size, 0, none⟩) la0_7).trans ma0_0_7, (hby.cell (p := ⟨w.heap.size, 1, none⟩) la0_7).trans ma0_1_7, (hby.cell (p := ⟨w.heap.size, 2, none⟩) la0_7).trans ma0_2_7⟩ | exact ⟨(hbz.cell (p := ⟨w4.heap.size, 0, none⟩) (Nat.lt_of_lt_of_le lx0_7 hby.size)).trans ((hby.cell (p := ⟨w4.heap.size, 0, none⟩) lx0_7).trans mx0_0_7), (hbz.cell (p := ⟨w4.heap.size, 1, none⟩) (Nat.lt_of_lt_of_le lx0_7 hby.size)).trans ((hby.cell (p := ⟨w4.heap.size, 1, none⟩) lx0_7).trans mx0_1_7), (hbz.cell (p := ⟨w4.heap.size, 2, none⟩) (Nat.lt_of_lt_of_le lx0_7 hby.size)).trans ((hby.cell (p := ⟨w4.heap.size, 2, none⟩) lx0_7).trans mx0_2_7), (hbz.cell (p := ⟨w.heap.size, 0, none⟩) (Nat.lt_of_lt_of_le la0_7 hby.size)).trans ((hby.cell (p := ⟨w.heap.size, 0, none⟩) la0_7).trans ma0_0_7), (hbz.cell (p := ⟨w.heap.size, 1, none⟩) (Nat.lt_of_lt_of_le la0_7 hby.size)).trans ((hby.cell (p := ⟨w.heap.size, 1, none⟩) la0_7).trans ma0_1_7), (hbz.cell (p := ⟨w.heap.size, 2, none⟩) (Nat.lt_of_lt_of_le la0_7 hby.size)).trans ((hby.cell (p := ⟨w.heap.size, 2, none⟩) la0_7).trans ma0_2_7)⟩)
      (first
        | (go_at_call 14; refine (toTrace_any a0 b0 A0 n0 c0 xs0 _ (by exact ((unhide HR0).below (unhide HB7)).more (unhide HB7).size) hle0).mono ?_; rintro e wy ⟨A_y, n_y, c_y, rfl, hOy, hby⟩)
        | (go_at_call 16; refine (eqTrace_any a0 b0 a0 b0 A_x0 A_y n_x0 n_y c_x0 c_y xs0 xs0 _ (by exact (((unhide Ox0_7).ri).below ((Below.refl _ w7).drew.trans hby)).more hby.size) (by exact hOy.ri) (unhide Ox0_7).max hOy.max).mono ?_; rintro e w8 ⟨rfl, hbz⟩))
    clear hOy
    have hq8 : Below w7.heap.size w7 w8 := ((Below.refl _ w7).drew.trans hby).trans (hbz.mono hby.size)
    have z8 : w7.heap.size + 0 ≤ w8.heap.size := by have := hq8.size; (try simp at this); omega
    have HB8 := hide ((unhide HB7).trans (hq8.mono (unhide HB7).size))
    have Ow0_8 := hide ((unhide Ow0_7).below hq8 (Nat.le_refl _))
    clear Ow0_7
    have Ox0_8 := hide ((unhide Ox0_7).below hq8 (Nat.le_refl _))
    clear Ox0_7
    have Ox1_8 := hide ((unhide Ox1_7).below hq8 (Nat.le_refl _))
    clear Ox1_7
    have Og0_8 := hide ((unhide Og0_7).below hq8 (Nat.le_refl _))
    clear Og0_7
    have ma0_0_8 : w8.cell? ⟨w.heap.size, 0, none⟩ = some (.int .i64 a0) := (hq8.cell (p := ⟨w.heap.size, 0, none⟩) la0_7).trans ma0_0_7
    have ma0_1_8 : w8.cell? ⟨w.heap.size, 1, none⟩ = some (.int .i64 b0) := (hq8.cell (p := ⟨w.heap.size, 1, none⟩) la0_7).trans ma0_1_7
    have ma0_2_8 : w8.cell? ⟨w.heap.size, 2, none⟩ = some (.slice A0 n0 c0) := (hq8.cell (p := ⟨w.heap.size, 2, none⟩) la0_7).trans ma0_2_7
    have la0_8 : w.heap.size < w8.heap.size := Nat.lt_of_lt_of_le la0_7 hq8.size
    clear ma0_0_7 ma0_1_7 ma0_2_7 la0_7 
    have ma1_0_8 : w8.cell? ⟨w.heap.size + 1, 0, none⟩ = some (.int .i64 a1) := (hq8.cell (p := ⟨w.heap.size + 1, 0, none⟩) la1_7).trans ma1_0_7
    have ma1_1_8 : w8.cell? ⟨w.heap.size + 1, 1, none⟩ = some (.int .i64 b1) := (hq8.cell (p := ⟨w.heap.size + 1, 1, none⟩) la1_7).trans ma1_1_7
    have ma1_2_8 : w8.cell? ⟨w.heap.size + 1, 2, none⟩ = some (.slice A1 n1 c1) := (hq8.cell (p := ⟨w.heap.size + 1, 2, none⟩) la1_7).trans ma1_2_7
    have la1_8 : w.heap.size + 1 < w8.heap.size := Nat.lt_of_lt_of_le la1_7 hq8.size
    clear ma1_0_7 ma1_1_7 ma1_2_7 la1_7 
    have Uw0_8 := hide ((unhide Uw0_7).below hq8)
    clear Uw0_7 vw0_0_5 vw0_1_5 vw0_2_5 vlw0_5
    have vw0_0_6 : w8.cell? ⟨g_w0, 0, none⟩ = some (.int .i64 ra0) := (unhide Uw0_8).cell 0
    have vw0_1_6 : w8.cell? ⟨g_w0, 1, none⟩ = some (.int .i64 rb0) := (unhide Uw0_8).cell 1
    have vw0_2_6 : w8.cell? ⟨g_w0, 2, none⟩ = some (.slice A_w0 n_w0 c_w0) := (unhide Uw0_8).cell 2
    have vlw0_6 := (unhide Uw0_8).lt
    have mx0_0_8 : w8.cell? ⟨w4.heap.size, 0, none⟩ = some (.int .i64 a0) := (hq8.cell (p := ⟨w4.heap.size, 0, none⟩) lx0_7).trans mx0_0_7
    have mx0_1_8 : w8.cell? ⟨w4.heap.size, 1, none⟩ = some (.int .i64 b0) := (hq8.cell (p := ⟨w4.heap.size, 1, none⟩) lx0_7).trans mx0_1_7
    have mx0_2_8 : w8.cell? ⟨w4.heap.size, 2, none⟩ = some (.slice A_x0 n_x0 c_x0) := (hq8.cell (p := ⟨w4.heap.size, 2, none⟩) lx0_7).trans mx0_2_7
    have lx0_8 : w4.heap.size < w8.heap.size := Nat.lt_of_lt_of_le lx0_7 hq8.size
    clear mx0_0_7 mx0_1_7 mx0_2_7 lx0_7 
    have mx1_0_8 : w8.cell? ⟨w5.heap.size, 0, none⟩ = some (.int .i64 a1) := (hq8.cell (p := ⟨w5.heap.size, 0, none⟩) lx1_7).trans mx1_0_7
    have mx1_1_8 : w8.cell? ⟨w5.heap.size, 1, none⟩ = some (.int .i64 b1) := (hq8.cell (p := ⟨w5.heap.size, 1, none⟩) lx1_7).trans mx1_1_7
    have mx1_2_8 : w8.cell? ⟨w5.heap.size, 2, none⟩ = some (.slice A_x1 n_x1 c_x1) := (hq8.cell (p := ⟨w5.heap.size, 2, none⟩) lx1_7).trans mx1_2_7
    have lx1_8 : w5.heap.size < w8.heap.size := Nat.lt_of_lt_of_le lx1_7 hq8.size
    clear mx1_0_7 mx1_1_7 mx1_2_7 lx1_7 
    have mg0_0_8 : w8.cell? ⟨w6.heap.size, 0, none⟩ = some (.int .i64 ra0) := (hq8.cell (p := ⟨w6.heap.size, 0, none⟩) lg0_7).trans mg0_0_7
    have mg0_1_8 : w8.cell? ⟨w6.heap.size, 1, none⟩ = some (.int .i64 rb0) := (hq8.cell (p := ⟨w6.heap.size, 1, none⟩) lg0_7).trans mg0_1_7
    have mg0_2_8 : w8.cell? ⟨w6.heap.size, 2, none⟩ = some (.slice A_g0 n_g0 c_g0) := (hq8.cell (p := ⟨w6.heap.size, 2, none⟩) lg0_7).trans mg0_2_7
    have lg0_8 : w6.heap.size < w8.heap.size := Nat.lt_of_lt_of_le lg0_7 hq8.size
    clear mg0_0_7 mg0_1_7 mg0_2_7 lg0_7 
    clear hby hbz hq8 HB7
    go_wp2_with fail
    go_region_held3 (fun w' => w'.cell? ⟨w5.heap.size, 0, none⟩ = some (.int .i64 a1) ∧ w'.cell? ⟨w5.heap.size, 1, none⟩ = some (.int .i64 b1) ∧ w'.cell? ⟨w5.heap.size, 2, none⟩ = some (.slice A_x1 n_x1 c_x1) ∧ w'.cell? ⟨w.heap.size + 1, 0, none⟩ = some (.int .i64 a1) ∧ w'.cell? ⟨w.heap.size + 1, 1, none⟩ = some (.int .i64 b1) ∧ w'.cell? ⟨w.heap.size + 1, 2, none⟩ = some (.slice A1 n1 c1))
      (first | go_keep | exact ⟨(hby.cell (p := ⟨w5.heap.size, 0, none⟩) lx1_8).trans mx1_0_8, (hby.cell (p := ⟨w5.heap.size, 1, none⟩) lx1_8).trans mx1_1_8, (hby.cell (p := ⟨w5.heap.size, 2, none⟩) lx1_8).trans mx1_2_8, (hby.cell (p := ⟨w.heap.size + 1, 0, none⟩) la1_8).trans ma1_0_8, (hby.cell (p := ⟨w.heap.size + 1, 1, none⟩) la1_8).trans ma1_1_8, (hby.cell (p := ⟨w.heap.size + 1, 2, none⟩) la1_8).trans ma1_2_8⟩ | exact ⟨(hbz.cell (p := ⟨w5.heap.size, 0, none⟩) (Nat.lt_of_lt_of_le lx1_8 hby.size)).trans ((hby.cell (p := ⟨w5.heap.size, 0, none⟩) lx1_8).trans mx1_0_8), (hbz.cell (p := ⟨w5.heap.size, 1, none⟩) (Nat.lt_of_lt_of_le lx1_8 hby.size)).trans ((hby.cell (p := ⟨w5.heap.size, 1, none⟩) lx1_8).trans mx1_1_8), (hbz.cell (p := ⟨w5.heap.size, 2, none⟩) (Nat.lt_of_lt_of_le lx1_8 hby.size)).trans ((hby.cell (p := ⟨w5.heap.size, 2, none⟩) lx1_8).trans mx1_2_8), (hbz.cell (p := ⟨w.heap.size + 1, 0, none⟩) (Nat.lt_of_lt_of_le la1_8 hby.size)).trans ((hby.cell (p := ⟨w.heap.size + 1, 0, none⟩) la1_8).trans ma1_0_8), (hbz.cell (p := ⟨w.heap.size + 1, 1, none⟩) (Nat.lt_of_lt_of_le la1_8 hby.size)).trans ((hby.cell (p := ⟨w.heap.size + 1, 1, none⟩) la1_8).trans ma1_1_8), (hbz.cell (p := ⟨w.heap.size + 1, 2, none⟩) (Nat.lt_of_lt_of_le la1_8 hby.size)).trans ((hby.cell (p := ⟨w.heap.size + 1, 2, none⟩) la1_8).trans ma1_2_8)⟩)
      (first
        | (go_at_call 14; refine (toTrace_any a1 b1 A1 n1 c1 xs1 _ (by exact ((unhide HR1).below (unhide HB8)).more (unhide HB8).size) hle1).mono ?_; rintro e wy ⟨A_y, n_y, c_y, rfl, hOy, hby⟩)
        | (go_at_call 16; refine (eqTrace_any a1 b1 a1 b1 A_x1 A_y n_x1 n_y c_x1 c_y xs1 xs1 _ (by exact (((unhide Ox1_8).ri).below ((Below.refl _ w8).drew.trans hby)).more hby.size) (by exact hOy.ri) (unhide Ox1_8).max hOy.max).mono ?_; rintro e w9 ⟨rfl, hbz⟩))
    clear hOy
    have hq9 : Below w8.heap.size w8 w9 := ((Below.refl _ w8).drew.trans hby).trans (hbz.mono hby.size)
    have z9 : w8.heap.size + 0 ≤ w9.heap.size := by have := hq9.size; (try simp at this); omega
    have HB9 := hide ((unhide HB8).trans (hq9.mono (unhide HB8).size))
    have Ow0_9 := hide ((unhide Ow0_8).below hq9 (Nat.le_refl _))
    clear Ow0_8
    have Ox0_9 := hide ((unhide Ox0_8).below hq9 (Nat.le_refl _))
    clear Ox0_8
    have Ox1_9 := hide ((unhide Ox1_8).below hq9 (Nat.le_refl _))
    clear Ox1_8
    have Og0_9 := hide ((unhide Og0_8).below hq9 (Nat.le_refl _))
    clear Og0_8
    have ma0_0_9 : w9.cell? ⟨w.heap.size, 0, none⟩ = some (.int .i64 a0) := (hq9.cell (p := ⟨w.heap.size, 0, none⟩) la0_8).trans ma0_0_8
    have ma0_1_9 : w9.cell? ⟨w.heap.size, 1, none⟩ = some (.int .i64 b0) := (hq9.cell (p := ⟨w.heap.size, 1, none⟩) la0_8).trans ma0_1_8
    have ma0_2_9 : w9.cell? ⟨w.heap.size, 2, none⟩ = some (.slice A0 n0 c0) := (hq9.cell (p := ⟨w.heap.size, 2, none⟩) la0_8).trans ma0_2_8
    have la0_9 : w.heap.size < w9.heap.size := Nat.lt_of_lt_of_le la0_8 hq9.size
    clear ma0_0_8 ma0_1_8 ma0_2_8 la0_8 
    have ma1_0_9 : w9.cell? ⟨w.heap.size + 1, 0, none⟩ = some (.int .i64 a1) := (hq9.cell (p := ⟨w.heap.size + 1, 0, none⟩) la1_8).trans ma1_0_8
    have ma1_1_9 : w9.cell? ⟨w.heap.size + 1, 1, none⟩ = some (.int .i64 b1) := (hq9.cell (p := ⟨w.heap.size + 1, 1, none⟩) la1_8).trans ma1_1_8
    have ma1_2_9 : w9.cell? ⟨w.heap.size + 1, 2, none⟩ = some (.slice A1 n1 c1) := (hq9.cell (p := ⟨w.heap.size + 1, 2, none⟩) la1_8).trans ma1_2_8
    have la1_9 : w.heap.size + 1 < w9.heap.size := Nat.lt_of_lt_of_le la1_8 hq9.size
    clear ma1_0_8 ma1_1_8 ma1_2_8 la1_8 
    have Uw0_9 := hide ((unhide Uw0_8).below hq9)
    clear Uw0_8 vw0_0_6 vw0_1_6 vw0_2_6 vlw0_6
    have vw0_0_7 : w9.cell? ⟨g_w0, 0, none⟩ = some (.int .i64 ra0) := (unhide Uw0_9).cell 0
    have vw0_1_7 : w9.cell? ⟨g_w0, 1, none⟩ = some (.int .i64 rb0) := (unhide Uw0_9).cell 1
    have vw0_2_7 : w9.cell? ⟨g_w0, 2, none⟩ = some (.slice A_w0 n_w0 c_w0) := (unhide Uw0_9).cell 2
    have vlw0_7 := (unhide Uw0_9).lt
    have mx0_0_9 : w9.cell? ⟨w4.heap.size, 0, none⟩ = some (.int .i64 a0) := (hq9.cell (p := ⟨w4.heap.size, 0, none⟩) lx0_8).trans mx0_0_8
    have mx0_1_9 : w9.cell? ⟨w4.heap.size, 1, none⟩ = some (.int .i64 b0) := (hq9.cell (p := ⟨w4.heap.size, 1, none⟩) lx0_8).trans mx0_1_8
    have mx0_2_9 : w9.cell? ⟨w4.heap.size, 2, none⟩ = some (.slice A_x0 n_x0 c_x0) := (hq9.cell (p := ⟨w4.heap.size, 2, none⟩) lx0_8).trans mx0_2_8
    have lx0_9 : w4.heap.size < w9.heap.size := Nat.lt_of_lt_of_le lx0_8 hq9.size
    clear mx0_0_8 mx0_1_8 mx0_2_8 lx0_8 
    have mx1_0_9 : w9.cell? ⟨w5.heap.size, 0, none⟩ = some (.int .i64 a1) := (hq9.cell (p := ⟨w5.heap.size, 0, none⟩) lx1_8).trans mx1_0_8
    have mx1_1_9 : w9.cell? ⟨w5.heap.size, 1, none⟩ = some (.int .i64 b1) := (hq9.cell (p := ⟨w5.heap.size, 1, none⟩) lx1_8).trans mx1_1_8
    have mx1_2_9 : w9.cell? ⟨w5.heap.size, 2, none⟩ = some (.slice A_x1 n_x1 c_x1) := (hq9.cell (p := ⟨w5.heap.size, 2, none⟩) lx1_8).trans mx1_2_8
    have lx1_9 : w5.heap.size < w9.heap.size := Nat.lt_of_lt_of_le lx1_8 hq9.size
    clear mx1_0_8 mx1_1_8 mx1_2_8 lx1_8 
    have mg0_0_9 : w9.cell? ⟨w6.heap.size, 0, none⟩ = some (.int .i64 ra0) := (hq9.cell (p := ⟨w6.heap.size, 0, none⟩) lg0_8).trans mg0_0_8
    have mg0_1_9 : w9.cell? ⟨w6.heap.size, 1, none⟩ = some (.int .i64 rb0) := (hq9.cell (p := ⟨w6.heap.size, 1, none⟩) lg0_8).trans mg0_1_8
    have mg0_2_9 : w9.cell? ⟨w6.heap.size, 2, none⟩ = some (.slice A_g0 n_g0 c_g0) := (hq9.cell (p := ⟨w6.heap.size, 2, none⟩) lg0_8).trans mg0_2_8
    have lg0_9 : w6.heap.size < w9.heap.size := Nat.lt_of_lt_of_le lg0_8 hq9.size
    clear mg0_0_8 mg0_1_8 mg0_2_8 lg0_8 
    clear hby hbz hq9 HB8
    go_wp2_with fail
    refine (markTrace_any a0 b0 A_x0 n_x0 c_x0 _ xs0 _ _ (unhide Ox0_9).1 (by omega) (by omega) (by omega)).mono ?_
    rintro e w10 ⟨rfl, hO10, hg10⟩
    have z10 : w9.heap.size + 0 ≤ w10.heap.size := hg10.size
    have HB10 := hide ((unhide Ox0_9).grown (unhide HB9) (by omega) (unhide HB9).size hg10)
    have Ow0_10 := hide ((unhide Ow0_9).kept hg10 (unhide Ox0_9) (by omega))
    clear Ow0_9
    have Ox1_10 := hide ((unhide Ox1_9).kept hg10 (unhide Ox0_9) (by omega))
    clear Ox1_9
    have Og0_10 := hide ((unhide Og0_9).kept hg10 (unhide Ox0_9) (by omega))
    clear Og0_9
    have nea0_10 : some (w.heap.size) ≠ (Value.slice A_x0 n_x0 c_x0).ownBlock := fun e => by have h1 := World.ownsRow.lt (unhide Ox0_9).1 _ e.symm; have h2 := (unhide Ox0_9).2 _ e.symm; omega
    have ma0_0_10 : w10.cell? ⟨w.heap.size, 0, none⟩ = some (.int .i64 a0) := (World.cell?_of_block (a := ⟨w.heap.size, 0, none⟩) (hg10.block _ la0_9 nea0_10)).trans ma0_0_9
    have ma0_1_10 : w10.cell? ⟨w.heap.size, 1, none⟩ = some (.int .i64 b0) := (World.cell?_of_block (a := ⟨w.heap.size, 1, none⟩) (hg10.block _ la0_9 nea0_10)).trans ma0_1_9
    have ma0_2_10 : w10.cell? ⟨w.heap.size, 2, none⟩ = some (.slice A0 n0 c0) := (World.cell?_of_block (a := ⟨w.heap.size, 2, none⟩) (hg10.block _ la0_9 nea0_10)).trans ma0_2_9
    have la0_10 : w.heap.size < w10.heap.size := Nat.lt_of_lt_of_le la0_9 hg10.size
    clear ma0_0_9 ma0_1_9 ma0_2_9 la0_9 nea0_10 
    have nea1_10 : some (w.heap.size + 1) ≠ (Value.slice A_x0 n_x0 c_x0).ownBlock := fun e => by have h1 := World.ownsRow.lt (unhide Ox0_9).1 _ e.symm; have h2 := (unhide Ox0_9).2 _ e.symm; omega
    have ma1_0_10 : w10.cell? ⟨w.heap.size + 1, 0, none⟩ = some (.int .i64 a1) := (World.cell?_of_block (a := ⟨w.heap.size + 1, 0, none⟩) (hg10.block _ la1_9 nea1_10)).trans ma1_0_9
    have ma1_1_10 : w10.cell? ⟨w.heap.size + 1, 1, none⟩ = some (.int .i64 b1) := (World.cell?_of_block (a := ⟨w.heap.size + 1, 1, none⟩) (hg10.block _ la1_9 nea1_10)).trans ma1_1_9
    have ma1_2_10 : w10.cell? ⟨w.heap.size + 1, 2, none⟩ = some (.slice A1 n1 c1) := (World.cell?_of_block (a := ⟨w.heap.size + 1, 2, none⟩) (hg10.block _ la1_9 nea1_10)).trans ma1_2_9
    have la1_10 : w.heap.size + 1 < w10.heap.size := Nat.lt_of_lt_of_le la1_9 hg10.size
    clear ma1_0_9 ma1_1_9 ma1_2_9 la1_9 nea1_10 
    have Uw0_10 := hide ((unhide Uw0_9).kept hg10 (unhide Ox0_9).1 trace_ne_int')
    clear Uw0_9 vw0_0_7 vw0_1_7 vw0_2_7 vlw0_7
    have vw0_0_8 : w10.cell? ⟨g_w0, 0, none⟩ = some (.int .i64 ra0) := (unhide Uw0_10).cell 0
    have vw0_1_8 : w10.cell? ⟨g_w0, 1, none⟩ = some (.int .i64 rb0) := (unhide Uw0_10).cell 1
    have vw0_2_8 : w10.cell? ⟨g_w0, 2, none⟩ = some (.slice A_w0 n_w0 c_w0) := (unhide Uw0_10).cell 2
    have vlw0_8 := (unhide Uw0_10).lt
    have nex0_10 : some (w4.heap.size) ≠ (Value.slice A_x0 n_x0 c_x0).ownBlock := fun e => by have h1 := World.ownsRow.lt (unhide Ox0_9).1 _ e.symm; have h2 := (unhide Ox0_9).2 _ e.symm; omega
    have mx0_0_10 : w10.cell? ⟨w4.heap.size, 0, none⟩ = some (.int .i64 a0) := (World.cell?_of_block (a := ⟨w4.heap.size, 0, none⟩) (hg10.block _ lx0_9 nex0_10)).trans mx0_0_9
    have mx0_1_10 : w10.cell? ⟨w4.heap.size, 1, none⟩ = some (.int .i64 b0) := (World.cell?_of_block (a := ⟨w4.heap.size, 1, none⟩) (hg10.block _ lx0_9 nex0_10)).trans mx0_1_9
    have mx0_2_10 : w10.cell? ⟨w4.heap.size, 2, none⟩ = some (.slice A_x0 n_x0 c_x0) := (World.cell?_of_block (a := ⟨w4.heap.size, 2, none⟩) (hg10.block _ lx0_9 nex0_10)).trans mx0_2_9
    have lx0_10 : w4.heap.size < w10.heap.size := Nat.lt_of_lt_of_le lx0_9 hg10.size
    clear mx0_0_9 mx0_1_9 mx0_2_9 lx0_9 nex0_10 
    have nex1_10 : some (w5.heap.size) ≠ (Value.slice A_x0 n_x0 c_x0).ownBlock := fun e => by have h1 := World.ownsRow.lt (unhide Ox0_9).1 _ e.symm; have h2 := (unhide Ox0_9).2 _ e.symm; omega
    have mx1_0_10 : w10.cell? ⟨w5.heap.size, 0, none⟩ = some (.int .i64 a1) := (World.cell?_of_block (a := ⟨w5.heap.size, 0, none⟩) (hg10.block _ lx1_9 nex1_10)).trans mx1_0_9
    have mx1_1_10 : w10.cell? ⟨w5.heap.size, 1, none⟩ = some (.int .i64 b1) := (World.cell?_of_block (a := ⟨w5.heap.size, 1, none⟩) (hg10.block _ lx1_9 nex1_10)).trans mx1_1_9
    have mx1_2_10 : w10.cell? ⟨w5.heap.size, 2, none⟩ = some (.slice A_x1 n_x1 c_x1) := (World.cell?_of_block (a := ⟨w5.heap.size, 2, none⟩) (hg10.block _ lx1_9 nex1_10)).trans mx1_2_9
    have lx1_10 : w5.heap.size < w10.heap.size := Nat.lt_of_lt_of_le lx1_9 hg10.size
    clear mx1_0_9 mx1_1_9 mx1_2_9 lx1_9 nex1_10 
    have neg0_10 : some (w6.heap.size) ≠ (Value.slice A_x0 n_x0 c_x0).ownBlock := fun e => by have h1 := World.ownsRow.lt (unhide Ox0_9).1 _ e.symm; have h2 := (unhide Ox0_9).2 _ e.symm; omega
    have mg0_0_10 : w10.cell? ⟨w6.heap.size, 0, none⟩ = some (.int .i64 ra0) := (World.cell?_of_block (a := ⟨w6.heap.size, 0, none⟩) (hg10.block _ lg0_9 neg0_10)).trans mg0_0_9
    have mg0_1_10 : w10.cell? ⟨w6.heap.size, 1, none⟩ = some (.int .i64 rb0) := (World.cell?_of_block (a := ⟨w6.heap.size, 1, none⟩) (hg10.block _ lg0_9 neg0_10)).trans mg0_1_9
    have mg0_2_10 : w10.cell? ⟨w6.heap.size, 2, none⟩ = some (.slice A_g0 n_g0 c_g0) := (World.cell?_of_block (a := ⟨w6.heap.size, 2, none⟩) (hg10.block _ lg0_9 neg0_10)).trans mg0_2_9
    have lg0_10 : w6.heap.size < w10.heap.size := Nat.lt_of_lt_of_le lg0_9 hg10.size
    clear mg0_0_9 mg0_1_9 mg0_2_9 lg0_9 neg0_10 
    have Ox0_10 : Hid (OwnR _ _ _ _ _ _ _ _ _) := ⟨hO10, (unhide Ox0_9).2⟩
    clear Ox0_9 hO10 hg10 HB9
    go_wp2_with fail
    refine (markTrace_any a1 b1 A_x1 n_x1 c_x1 _ xs1 _ _ (unhide Ox1_10).1 (by omega) (by omega) (by omega)).mono ?_
    rintro e w11 ⟨rfl, hO11, hg11⟩
    have z11 : w10.heap.size + 0 ≤ w11.heap.size := hg11.size
    have HB11 := hide ((unhide Ox1_10).grown (unhide HB10) (by omega) (unhide HB10).size hg11)
    have Ow0_11 := hide ((unhide Ow0_10).kept hg11 (unhide Ox1_10) (by omega))
    clear Ow0_10
    have Ox0_11 := hide ((unhide Ox0_10).kept hg11 (unhide Ox1_10) (by omega))
    clear Ox0_10
    have Og0_11 := hide ((unhide Og0_10).kept hg11 (unhide Ox1_10) (by omega))
    clear Og0_10
    have nea0_11 : some (w.heap.size) ≠ (Value.slice A_x1 n_x1 c_x1).ownBlock := fun e => by have h1 := World.ownsRow.lt (unhide Ox1_10).1 _ e.symm; have h2 := (unhide Ox1_10).2 _ e.symm; omega
    have ma0_0_11 : w11.cell? ⟨w.heap.size, 0, none⟩ = some (.int .i64 a0) := (World.cell?_of_block (a := ⟨w.heap.size, 0, none⟩) (hg11.block _ la0_10 nea0_11)).trans ma0_0_10
    have ma0_1_11 : w11.cell? ⟨w.heap.size, 1, none⟩ = some (.int .i64 b0) := (World.cell?_of_block (a := ⟨w.heap.size, 1, none⟩) (hg11.block _ la0_10 nea0_11)).trans ma0_1_10
    have ma0_2_11 : w11.cell? ⟨w.heap.size, 2, none⟩ = some (.slice A0 n0 c0) := (World.cell?_of_block (a := ⟨w.heap.size, 2, none⟩) (hg11.block _ la0_10 nea0_11)).trans ma0_2_10
    have la0_11 : w.heap.size < w11.heap.size := Nat.lt_of_lt_of_le la0_10 hg11.size
    clear ma0_0_10 ma0_1_10 ma0_2_10 la0_10 nea0_11 
    have nea1_11 : some (w.heap.size + 1) ≠ (Value.slice A_x1 n_x1 c_x1).ownBlock := fun e => by have h1 := World.ownsRow.lt (unhide Ox1_10).1 _ e.symm; have h2 := (unhide Ox1_10).2 _ e.symm; omega
    have ma1_0_11 : w11.cell? ⟨w.heap.size + 1, 0, none⟩ = some (.int .i64 a1) := (World.cell?_of_block (a := ⟨w.heap.size + 1, 0, none⟩) (hg11.block _ la1_10 nea1_11)).trans ma1_0_10
    have ma1_1_11 : w11.cell? ⟨w.heap.size + 1, 1, none⟩ = some (.int .i64 b1) := (World.cell?_of_block (a := ⟨w.heap.size + 1, 1, none⟩) (hg11.block _ la1_10 nea1_11)).trans ma1_1_10
    have ma1_2_11 : w11.cell? ⟨w.heap.size + 1, 2, none⟩ = some (.slice A1 n1 c1) := (World.cell?_of_block (a := ⟨w.heap.size + 1, 2, none⟩) (hg11.block _ la1_10 nea1_11)).trans ma1_2_10
    have la1_11 : w.heap.size + 1 < w11.heap.size := Nat.lt_of_lt_of_le la1_10 hg11.size
    clear ma1_0_10 ma1_1_10 ma1_2_10 la1_10 nea1_11 
    have Uw0_11 := hide ((unhide Uw0_10).kept hg11 (unhide Ox1_10).1 trace_ne_int')
    clear Uw0_10 vw0_0_8 vw0_1_8 vw0_2_8 vlw0_8
    have vw0_0_9 : w11.cell? ⟨g_w0, 0, none⟩ = some (.int .i64 ra0) := (unhide Uw0_11).cell 0
    have vw0_1_9 : w11.cell? ⟨g_w0, 1, none⟩ = some (.int .i64 rb0) := (unhide Uw0_11).cell 1
    have vw0_2_9 : w11.cell? ⟨g_w0, 2, none⟩ = some (.slice A_w0 n_w0 c_w0) := (unhide Uw0_11).cell 2
    have vlw0_9 := (unhide Uw0_11).lt
    have nex0_11 : some (w4.heap.size) ≠ (Value.slice A_x1 n_x1 c_x1).ownBlock := fun e => by have h1 := World.ownsRow.lt (unhide Ox1_10).1 _ e.symm; have h2 := (unhide Ox1_10).2 _ e.symm; omega
    have mx0_0_11 : w11.cell? ⟨w4.heap.size, 0, none⟩ = some (.int .i64 a0) := (World.cell?_of_block (a := ⟨w4.heap.size, 0, none⟩) (hg11.block _ lx0_10 nex0_11)).trans mx0_0_10
    have mx0_1_11 : w11.cell? ⟨w4.heap.size, 1, none⟩ = some (.int .i64 b0) := (World.cell?_of_block (a := ⟨w4.heap.size, 1, none⟩) (hg11.block _ lx0_10 nex0_11)).trans mx0_1_10
    have mx0_2_11 : w11.cell? ⟨w4.heap.size, 2, none⟩ = some (.slice A_x0 n_x0 c_x0) := (World.cell?_of_block (a := ⟨w4.heap.size, 2, none⟩) (hg11.block _ lx0_10 nex0_11)).trans mx0_2_10
    have lx0_11 : w4.heap.size < w11.heap.size := Nat.lt_of_lt_of_le lx0_10 hg11.size
    clear mx0_0_10 mx0_1_10 mx0_2_10 lx0_10 nex0_11 
    have nex1_11 : some (w5.heap.size) ≠ (Value.slice A_x1 n_x1 c_x1).ownBlock := fun e => by have h1 := World.ownsRow.lt (unhide Ox1_10).1 _ e.symm; have h2 := (unhide Ox1_10).2 _ e.symm; omega
    have mx1_0_11 : w11.cell? ⟨w5.heap.size, 0, none⟩ = some (.int .i64 a1) := (World.cell?_of_block (a := ⟨w5.heap.size, 0, none⟩) (hg11.block _ lx1_10 nex1_11)).trans mx1_0_10
    have mx1_1_11 : w11.cell? ⟨w5.heap.size, 1, none⟩ = some (.int .i64 b1) := (World.cell?_of_block (a := ⟨w5.heap.size, 1, none⟩) (hg11.block _ lx1_10 nex1_11)).trans mx1_1_10
    have mx1_2_11 : w11.cell? ⟨w5.heap.size, 2, none⟩ = some (.slice A_x1 n_x1 c_x1) := (World.cell?_of_block (a := ⟨w5.heap.size, 2, none⟩) (hg11.block _ lx1_10 nex1_11)).trans mx1_2_10
    have lx1_11 : w5.heap.size < w11.heap.size := Nat.lt_of_lt_of_le lx1_10 hg11.size
    clear mx1_0_10 mx1_1_10 mx1_2_10 lx1_10 nex1_11 
    have neg0_11 : some (w6.heap.size) ≠ (Value.slice A_x1 n_x1 c_x1).ownBlock := fun e => by have h1 := World.ownsRow.lt (unhide Ox1_10).1 _ e.symm; have h2 := (unhide Ox1_10).2 _ e.symm; omega
    have mg0_0_11 : w11.cell? ⟨w6.heap.size, 0, none⟩ = some (.int .i64 ra0) := (World.cell?_of_block (a := ⟨w6.heap.size, 0, none⟩) (hg11.block _ lg0_10 neg0_11)).trans mg0_0_10
    have mg0_1_11 : w11.cell? ⟨w6.heap.size, 1, none⟩ = some (.int .i64 rb0) := (World.cell?_of_block (a := ⟨w6.heap.size, 1, none⟩) (hg11.block _ lg0_10 neg0_11)).trans mg0_1_10
    have mg0_2_11 : w11.cell? ⟨w6.heap.size, 2, none⟩ = some (.slice A_g0 n_g0 c_g0) := (World.cell?_of_block (a := ⟨w6.heap.size, 2, none⟩) (hg11.block _ lg0_10 neg0_11)).trans mg0_2_10
    have lg0_11 : w6.heap.size < w11.heap.size := Nat.lt_of_lt_of_le lg0_10 hg11.size
    clear mg0_0_10 mg0_1_10 mg0_2_10 lg0_10 neg0_11 
    have Ox1_11 : Hid (OwnR _ _ _ _ _ _ _ _ _) := ⟨hO11, (unhide Ox1_10).2⟩
    clear Ox1_10 hO11 hg11 HB10
    go_wp2_with fail
    refine (eqTrace_any ra0 rb0 ra0 rb0 A_g0 A_w0 n_g0 n_w0 c_g0 c_w0 ys0 ys0 _ ((unhide Og0_11).ri) ((unhide Ow0_11).ri) (unhide Og0_11).max (unhide Ow0_11).max).mono ?_
    rintro e w12 ⟨rfl, hb12⟩
    have hq12 := hb12
    have z12 : w11.heap.size + 0 ≤ w12.heap.size := by have := hb12.size; (try simp at this); omega
    have HB12 := hide ((unhide HB11).trans (hq12.mono (unhide HB11).size))
    have Ow0_12 := hide ((unhide Ow0_11).below hq12 (Nat.le_refl _))
    clear Ow0_11
    have Ox0_12 := hide ((unhide Ox0_11).below hq12 (Nat.le_refl _))
    clear Ox0_11
    have Ox1_12 := hide ((unhide Ox1_11).below hq12 (Nat.le_refl _))
    clear Ox1_11
    have Og0_12 := hide ((unhide Og0_11).below hq12 (Nat.le_refl _))
    clear Og0_11
    have ma0_0_12 : w12.cell? ⟨w.heap.size, 0, none⟩ = some (.int .i64 a0) := (hq12.cell (p := ⟨w.heap.size, 0, none⟩) la0_11).trans ma0_0_11
    have ma0_1_12 : w12.cell? ⟨w.heap.size, 1, none⟩ = some (.int .i64 b0) := (hq12.cell (p := ⟨w.heap.size, 1, none⟩) la0_11).trans ma0_1_11
    have ma0_2_12 : w12.cell? ⟨w.heap.size, 2, none⟩ = some (.slice A0 n0 c0) := (hq12.cell (p := ⟨w.heap.size, 2, none⟩) la0_11).trans ma0_2_11
    have la0_12 : w.heap.size < w12.heap.size := Nat.lt_of_lt_of_le la0_11 hq12.size
    clear ma0_0_11 ma0_1_11 ma0_2_11 la0_11 
    have ma1_0_12 : w12.cell? ⟨w.heap.size + 1, 0, none⟩ = some (.int .i64 a1) := (hq12.cell (p := ⟨w.heap.size + 1, 0, none⟩) la1_11).trans ma1_0_11
    have ma1_1_12 : w12.cell? ⟨w.heap.size + 1, 1, none⟩ = some (.int .i64 b1) := (hq12.cell (p := ⟨w.heap.size + 1, 1, none⟩) la1_11).trans ma1_1_11
    have ma1_2_12 : w12.cell? ⟨w.heap.size + 1, 2, none⟩ = some (.slice A1 n1 c1) := (hq12.cell (p := ⟨w.heap.size + 1, 2, none⟩) la1_11).trans ma1_2_11
    have la1_12 : w.heap.size + 1 < w12.heap.size := Nat.lt_of_lt_of_le la1_11 hq12.size
    clear ma1_0_11 ma1_1_11 ma1_2_11 la1_11 
    have Uw0_12 := hide ((unhide Uw0_11).below hq12)
    clear Uw0_11 vw0_0_9 vw0_1_9 vw0_2_9 vlw0_9
    have vw0_0_10 : w12.cell? ⟨g_w0, 0, none⟩ = some (.int .i64 ra0) := (unhide Uw0_12).cell 0
    have vw0_1_10 : w12.cell? ⟨g_w0, 1, none⟩ = some (.int .i64 rb0) := (unhide Uw0_12).cell 1
    have vw0_2_10 : w12.cell? ⟨g_w0, 2, none⟩ = some (.slice A_w0 n_w0 c_w0) := (unhide Uw0_12).cell 2
    have vlw0_10 := (unhide Uw0_12).lt
    have mx0_0_12 : w12.cell? ⟨w4.heap.size, 0, none⟩ = some (.int .i64 a0) := (hq12.cell (p := ⟨w4.heap.size, 0, none⟩) lx0_11).trans mx0_0_11
    have mx0_1_12 : w12.cell? ⟨w4.heap.size, 1, none⟩ = some (.int .i64 b0) := (hq12.cell (p := ⟨w4.heap.size, 1, none⟩) lx0_11).trans mx0_1_11
    have mx0_2_12 : w12.cell? ⟨w4.heap.size, 2, none⟩ = some (.slice A_x0 n_x0 c_x0) := (hq12.cell (p := ⟨w4.heap.size, 2, none⟩) lx0_11).trans mx0_2_11
    have lx0_12 : w4.heap.size < w12.heap.size := Nat.lt_of_lt_of_le lx0_11 hq12.size
    clear mx0_0_11 mx0_1_11 mx0_2_11 lx0_11 
    have mx1_0_12 : w12.cell? ⟨w5.heap.size, 0, none⟩ = some (.int .i64 a1) := (hq12.cell (p := ⟨w5.heap.size, 0, none⟩) lx1_11).trans mx1_0_11
    have mx1_1_12 : w12.cell? ⟨w5.heap.size, 1, none⟩ = some (.int .i64 b1) := (hq12.cell (p := ⟨w5.heap.size, 1, none⟩) lx1_11).trans mx1_1_11
    have mx1_2_12 : w12.cell? ⟨w5.heap.size, 2, none⟩ = some (.slice A_x1 n_x1 c_x1) := (hq12.cell (p := ⟨w5.heap.size, 2, none⟩) lx1_11).trans mx1_2_11
    have lx1_12 : w5.heap.size < w12.heap.size := Nat.lt_of_lt_of_le lx1_11 hq12.size
    clear mx1_0_11 mx1_1_11 mx1_2_11 lx1_11 
    have mg0_0_12 : w12.cell? ⟨w6.heap.size, 0, none⟩ = some (.int .i64 ra0) := (hq12.cell (p := ⟨w6.heap.size, 0, none⟩) lg0_11).trans mg0_0_11
    have mg0_1_12 : w12.cell? ⟨w6.heap.size, 1, none⟩ = some (.int .i64 rb0) := (hq12.cell (p := ⟨w6.heap.size, 1, none⟩) lg0_11).trans mg0_1_11
    have mg0_2_12 : w12.cell? ⟨w6.heap.size, 2, none⟩ = some (.slice A_g0 n_g0 c_g0) := (hq12.cell (p := ⟨w6.heap.size, 2, none⟩) lg0_11).trans mg0_2_11
    have lg0_12 : w6.heap.size < w12.heap.size := Nat.lt_of_lt_of_le lg0_11 hq12.size
    clear mg0_0_11 mg0_1_11 mg0_2_11 lg0_11 
    clear hb12 hq12 HB11
    go_wp2_with fail
    refine (markTrace_any ra0 rb0 A_g0 n_g0 c_g0 _ ys0 _ _ (unhide Og0_12).1 (by omega) (by omega) (by omega)).mono ?_
    rintro e w13 ⟨rfl, hO13, hg13⟩
    have z13 : w12.heap.size + 0 ≤ w13.heap.size := hg13.size
    have HB13 := hide ((unhide Og0_12).grown (unhide HB12) (by omega) (unhide HB12).size hg13)
    have Ow0_13 := hide ((unhide Ow0_12).kept hg13 (unhide Og0_12) (by omega))
    clear Ow0_12
    have Ox0_13 := hide ((unhide Ox0_12).kept hg13 (unhide Og0_12) (by omega))
    clear Ox0_12
    have Ox1_13 := hide ((unhide Ox1_12).kept hg13 (unhide Og0_12) (by omega))
    clear Ox1_12
    have nea0_13 : some (w.heap.size) ≠ (Value.slice A_g0 n_g0 c_g0).ownBlock := fun e => by have h1 := World.ownsRow.lt (unhide Og0_12).1 _ e.symm; have h2 := (unhide Og0_12).2 _ e.symm; omega
    have ma0_0_13 : w13.cell? ⟨w.heap.size, 0, none⟩ = some (.int .i64 a0) := (World.cell?_of_block (a := ⟨w.heap.size, 0, none⟩) (hg13.block _ la0_12 nea0_13)).trans ma0_0_12
    have ma0_1_13 : w13.cell? ⟨w.heap.size, 1, none⟩ = some (.int .i64 b0) := (World.cell?_of_block (a := ⟨w.heap.size, 1, none⟩) (hg13.block _ la0_12 nea0_13)).trans ma0_1_12
    have ma0_2_13 : w13.cell? ⟨w.heap.size, 2, none⟩ = some (.slice A0 n0 c0) := (World.cell?_of_block (a := ⟨w.heap.size, 2, none⟩) (hg13.block _ la0_12 nea0_13)).trans ma0_2_12
    have la0_13 : w.heap.size < w13.heap.size := Nat.lt_of_lt_of_le la0_12 hg13.size
    clear ma0_0_12 ma0_1_12 ma0_2_12 la0_12 nea0_13 
    have nea1_13 : some (w.heap.size + 1) ≠ (Value.slice A_g0 n_g0 c_g0).ownBlock := fun e => by have h1 := World.ownsRow.lt (unhide Og0_12).1 _ e.symm; have h2 := (unhide Og0_12).2 _ e.symm; omega
    have ma1_0_13 : w13.cell? ⟨w.heap.size + 1, 0, none⟩ = some (.int .i64 a1) := (World.cell?_of_block (a := ⟨w.heap.size + 1, 0, none⟩) (hg13.block _ la1_12 nea1_13)).trans ma1_0_12
    have ma1_1_13 : w13.cell? ⟨w.heap.size + 1, 1, none⟩ = some (.int .i64 b1) := (World.cell?_of_block (a := ⟨w.heap.size + 1, 1, none⟩) (hg13.block _ la1_12 nea1_13)).trans ma1_1_12
    have ma1_2_13 : w13.cell? ⟨w.heap.size + 1, 2, none⟩ = some (.slice A1 n1 c1) := (World.cell?_of_block (a := ⟨w.heap.size + 1, 2, none⟩) (hg13.block _ la1_12 nea1_13)).trans ma1_2_12
    have la1_13 : w.heap.size + 1 < w13.heap.size := Nat.lt_of_lt_of_le la1_12 hg13.size
    clear ma1_0_12 ma1_1_12 ma1_2_12 la1_12 nea1_13 
    have Uw0_13 := hide ((unhide Uw0_12).kept hg13 (unhide Og0_12).1 trace_ne_int')
    clear Uw0_12 vw0_0_10 vw0_1_10 vw0_2_10 vlw0_10
    have vw0_0_11 : w13.cell? ⟨g_w0, 0, none⟩ = some (.int .i64 ra0) := (unhide Uw0_13).cell 0
    have vw0_1_11 : w13.cell? ⟨g_w0, 1, none⟩ = some (.int .i64 rb0) := (unhide Uw0_13).cell 1
    have vw0_2_11 : w13.cell? ⟨g_w0, 2, none⟩ = some (.slice A_w0 n_w0 c_w0) := (unhide Uw0_13).cell 2
    have vlw0_11 := (unhide Uw0_13).lt
    have nex0_13 : some (w4.heap.size) ≠ (Value.slice A_g0 n_g0 c_g0).ownBlock := fun e => by have h1 := World.ownsRow.lt (unhide Og0_12).1 _ e.symm; have h2 := (unhide Og0_12).2 _ e.symm; omega
    have mx0_0_13 : w13.cell? ⟨w4.heap.size, 0, none⟩ = some (.int .i64 a0) := (World.cell?_of_block (a := ⟨w4.heap.size, 0, none⟩) (hg13.block _ lx0_12 nex0_13)).trans mx0_0_12
    have mx0_1_13 : w13.cell? ⟨w4.heap.size, 1, none⟩ = some (.int .i64 b0) := (World.cell?_of_block (a := ⟨w4.heap.size, 1, none⟩) (hg13.block _ lx0_12 nex0_13)).trans mx0_1_12
    have mx0_2_13 : w13.cell? ⟨w4.heap.size, 2, none⟩ = some (.slice A_x0 n_x0 c_x0) := (World.cell?_of_block (a := ⟨w4.heap.size, 2, none⟩) (hg13.block _ lx0_12 nex0_13)).trans mx0_2_12
    have lx0_13 : w4.heap.size < w13.heap.size := Nat.lt_of_lt_of_le lx0_12 hg13.size
    clear mx0_0_12 mx0_1_12 mx0_2_12 lx0_12 nex0_13 
    have nex1_13 : some (w5.heap.size) ≠ (Value.slice A_g0 n_g0 c_g0).ownBlock := fun e => by have h1 := World.ownsRow.lt (unhide Og0_12).1 _ e.symm; have h2 := (unhide Og0_12).2 _ e.symm; omega
    have mx1_0_13 : w13.cell? ⟨w5.heap.size, 0, none⟩ = some (.int .i64 a1) := (World.cell?_of_block (a := ⟨w5.heap.size, 0, none⟩) (hg13.block _ lx1_12 nex1_13)).trans mx1_0_12
    have mx1_1_13 : w13.cell? ⟨w5.heap.size, 1, none⟩ = some (.int .i64 b1) := (World.cell?_of_block (a := ⟨w5.heap.size, 1, none⟩) (hg13.block _ lx1_12 nex1_13)).trans mx1_1_12
    have mx1_2_13 : w13.cell? ⟨w5.heap.size, 2, none⟩ = some (.slice A_x1 n_x1 c_x1) := (World.cell?_of_block (a := ⟨w5.heap.size, 2, none⟩) (hg13.block _ lx1_12 nex1_13)).trans mx1_2_12
    have lx1_13 : w5.heap.size < w13.heap.size := Nat.lt_of_lt_of_le lx1_12 hg13.size
    clear mx1_0_12 mx1_1_12 mx1_2_12 lx1_12 nex1_13 
    have neg0_13 : some (w6.heap.size) ≠ (Value.slice A_g0 n_g0 c_g0).ownBlock := fun e => by have h1 := World.ownsRow.lt (unhide Og0_12).1 _ e.symm; have h2 := (unhide Og0_12).2 _ e.symm; omega
    have mg0_0_13 : w13.cell? ⟨w6.heap.size, 0, none⟩ = some (.int .i64 ra0) := (World.cell?_of_block (a := ⟨w6.heap.size, 0, none⟩) (hg13.block _ lg0_12 neg0_13)).trans mg0_0_12
    have mg0_1_13 : w13.cell? ⟨w6.heap.size, 1, none⟩ = some (.int .i64 rb0) := (World.cell?_of_block (a := ⟨w6.heap.size, 1, none⟩) (hg13.block _ lg0_12 neg0_13)).trans mg0_1_12
    have mg0_2_13 : w13.cell? ⟨w6.heap.size, 2, none⟩ = some (.slice A_g0 n_g0 c_g0) := (World.cell?_of_block (a := ⟨w6.heap.size, 2, none⟩) (hg13.block _ lg0_12 neg0_13)).trans mg0_2_12
    have lg0_13 : w6.heap.size < w13.heap.size := Nat.lt_of_lt_of_le lg0_12 hg13.size
    clear mg0_0_12 mg0_1_12 mg0_2_12 lg0_12 neg0_13 
    have Og0_13 : Hid (OwnR _ _ _ _ _ _ _ _ _) := ⟨hO13, (unhide Og0_12).2⟩
    clear Og0_12 hO13 hg13 HB12
    go_wp2_with fail
    refine (heldTrace_any ra0 rb0 A_g0 n_g0 c_g0 _ _ ((unhide Og0_13).ri) (by omega) (by omega) (by omega)).mono ?_
    rintro e w14 ⟨rfl, hb14⟩
    have hq14 := hb14
    have z14 : w13.heap.size + 0 ≤ w14.heap.size := by have := hb14.size; (try simp at this); omega
    have HB14 := hide ((unhide HB13).trans (hq14.mono (unhide HB13).size))
    have Ow0_14 := hide ((unhide Ow0_13).below hq14 (Nat.le_refl _))
    clear Ow0_13
    have Ox0_14 := hide ((unhide Ox0_13).below hq14 (Nat.le_refl _))
    clear Ox0_13
    have Ox1_14 := hide ((unhide Ox1_13).below hq14 (Nat.le_refl _))
    clear Ox1_13
    have Og0_14 := hide ((unhide Og0_13).below hq14 (Nat.le_refl _))
    clear Og0_13
    have ma0_0_14 : w14.cell? ⟨w.heap.size, 0, none⟩ = some (.int .i64 a0) := (hq14.cell (p := ⟨w.heap.size, 0, none⟩) la0_13).trans ma0_0_13
    have ma0_1_14 : w14.cell? ⟨w.heap.size, 1, none⟩ = some (.int .i64 b0) := (hq14.cell (p := ⟨w.heap.size, 1, none⟩) la0_13).trans ma0_1_13
    have ma0_2_14 : w14.cell? ⟨w.heap.size, 2, none⟩ = some (.slice A0 n0 c0) := (hq14.cell (p := ⟨w.heap.size, 2, none⟩) la0_13).trans ma0_2_13
    have la0_14 : w.heap.size < w14.heap.size := Nat.lt_of_lt_of_le la0_13 hq14.size
    clear ma0_0_13 ma0_1_13 ma0_2_13 la0_13 
    have ma1_0_14 : w14.cell? ⟨w.heap.size + 1, 0, none⟩ = some (.int .i64 a1) := (hq14.cell (p := ⟨w.heap.size + 1, 0, none⟩) la1_13).trans ma1_0_13
    have ma1_1_14 : w14.cell? ⟨w.heap.size + 1, 1, none⟩ = some (.int .i64 b1) := (hq14.cell (p := ⟨w.heap.size + 1, 1, none⟩) la1_13).trans ma1_1_13
    have ma1_2_14 : w14.cell? ⟨w.heap.size + 1, 2, none⟩ = some (.slice A1 n1 c1) := (hq14.cell (p := ⟨w.heap.size + 1, 2, none⟩) la1_13).trans ma1_2_13
    have la1_14 : w.heap.size + 1 < w14.heap.size := Nat.lt_of_lt_of_le la1_13 hq14.size
    clear ma1_0_13 ma1_1_13 ma1_2_13 la1_13 
    have Uw0_14 := hide ((unhide Uw0_13).below hq14)
    clear Uw0_13 vw0_0_11 vw0_1_11 vw0_2_11 vlw0_11
    have vw0_0_12 : w14.cell? ⟨g_w0, 0, none⟩ = some (.int .i64 ra0) := (unhide Uw0_14).cell 0
    have vw0_1_12 : w14.cell? ⟨g_w0, 1, none⟩ = some (.int .i64 rb0) := (unhide Uw0_14).cell 1
    have vw0_2_12 : w14.cell? ⟨g_w0, 2, none⟩ = some (.slice A_w0 n_w0 c_w0) := (unhide Uw0_14).cell 2
    have vlw0_12 := (unhide Uw0_14).lt
    have mx0_0_14 : w14.cell? ⟨w4.heap.size, 0, none⟩ = some (.int .i64 a0) := (hq14.cell (p := ⟨w4.heap.size, 0, none⟩) lx0_13).trans mx0_0_13
    have mx0_1_14 : w14.cell? ⟨w4.heap.size, 1, none⟩ = some (.int .i64 b0) := (hq14.cell (p := ⟨w4.heap.size, 1, none⟩) lx0_13).trans mx0_1_13
    have mx0_2_14 : w14.cell? ⟨w4.heap.size, 2, none⟩ = some (.slice A_x0 n_x0 c_x0) := (hq14.cell (p := ⟨w4.heap.size, 2, none⟩) lx0_13).trans mx0_2_13
    have lx0_14 : w4.heap.size < w14.heap.size := Nat.lt_of_lt_of_le lx0_13 hq14.size
    clear mx0_0_13 mx0_1_13 mx0_2_13 lx0_13 
    have mx1_0_14 : w14.cell? ⟨w5.heap.size, 0, none⟩ = some (.int .i64 a1) := (hq14.cell (p := ⟨w5.heap.size, 0, none⟩) lx1_13).trans mx1_0_13
    have mx1_1_14 : w14.cell? ⟨w5.heap.size, 1, none⟩ = some (.int .i64 b1) := (hq14.cell (p := ⟨w5.heap.size, 1, none⟩) lx1_13).trans mx1_1_13
    have mx1_2_14 : w14.cell? ⟨w5.heap.size, 2, none⟩ = some (.slice A_x1 n_x1 c_x1) := (hq14.cell (p := ⟨w5.heap.size, 2, none⟩) lx1_13).trans mx1_2_13
    have lx1_14 : w5.heap.size < w14.heap.size := Nat.lt_of_lt_of_le lx1_13 hq14.size
    clear mx1_0_13 mx1_1_13 mx1_2_13 lx1_13 
    have mg0_0_14 : w14.cell? ⟨w6.heap.size, 0, none⟩ = some (.int .i64 ra0) := (hq14.cell (p := ⟨w6.heap.size, 0, none⟩) lg0_13).trans mg0_0_13
    have mg0_1_14 : w14.cell? ⟨w6.heap.size, 1, none⟩ = some (.int .i64 rb0) := (hq14.cell (p := ⟨w6.heap.size, 1, none⟩) lg0_13).trans mg0_1_13
    have mg0_2_14 : w14.cell? ⟨w6.heap.size, 2, none⟩ = some (.slice A_g0 n_g0 c_g0) := (hq14.cell (p := ⟨w6.heap.size, 2, none⟩) lg0_13).trans mg0_2_13
    have lg0_14 : w6.heap.size < w14.heap.size := Nat.lt_of_lt_of_le lg0_13 hq14.size
    clear mg0_0_13 mg0_1_13 mg0_2_13 lg0_13 
    clear hb14 hq14 HB13
    go_wp2_with fail
    have SIX := hide (fun (W : World) (hb : Below w14.heap.size w14 W) => (⟨(hb.cell (p := ⟨w.heap.size, 0, none⟩) la0_14).trans ma0_0_14, (hb.cell (p := ⟨w.heap.size, 1, none⟩) la0_14).trans ma0_1_14, (hb.cell (p := ⟨w.heap.size, 2, none⟩) la0_14).trans ma0_2_14, (hb.cell (p := ⟨w.heap.size + 1, 0, none⟩) la1_14).trans ma1_0_14, (hb.cell (p := ⟨w.heap.size + 1, 1, none⟩) la1_14).trans ma1_1_14, (hb.cell (p := ⟨w.heap.size + 1, 2, none⟩) la1_14).trans ma1_2_14⟩ : W.cell? ⟨w.heap.size, 0, none⟩ = some (.int .i64 a0) ∧ W.cell? ⟨w.heap.size, 1, none⟩ = some (.int .i64 b0) ∧ W.cell? ⟨w.heap.size, 2, none⟩ = some (.slice A0 n0 c0) ∧ W.cell? ⟨w.heap.size + 1, 0, none⟩ = some (.int .i64 a1) ∧ W.cell? ⟨w.heap.size + 1, 1, none⟩ = some (.int .i64 b1) ∧ W.cell? ⟨w.heap.size + 1, 2, none⟩ = some (.slice A1 n1 c1)))
    have HRs0 : Hid (∀ (W : World), Below w14.heap.size w14 W → RI W W.heap.size A0 n0 xs0) := hide (fun W hb => ((unhide HR0).below (below_next (unhide HB14) hb)).more (below_next (unhide HB14) hb).size)
    have HRs1 : Hid (∀ (W : World), Below w14.heap.size w14 W → RI W W.heap.size A1 n1 xs1) := hide (fun W hb => ((unhide HR1).below (below_next (unhide HB14) hb)).more (below_next (unhide HB14) hb).size)
    go_cut [15, 16] (fun s6 s7 wx => ∃ (g_ : Nat) (A_ : Option Addr) (n_ c_ : Nat), s6 = .pointer (some ⟨g_, 0, none⟩) ∧ s7 = .bool r1 ∧ Hid (Whl wx g_ 27 #[.int .i64 ra0, .int .i64 rb0, .slice A_ n_ c_]) ∧ Hid (OwnI wx w14.heap.size A_ n_ c_ ys0) ∧ Hid (Below w14.heap.size w14 wx))
    case first =>
      go_region_held3 (fun w' => w'.cell? ⟨w.heap.size, 0, none⟩ = some (.int .i64 a0) ∧ w'.cell? ⟨w.heap.size, 1, none⟩ = some (.int .i64 b0) ∧ w'.cell? ⟨w.heap.size, 2, none⟩ = some (.slice A0 n0 c0) ∧ w'.cell? ⟨w.heap.size + 1, 0, none⟩ = some (.int .i64 a1) ∧ w'.cell? ⟨w.heap.size + 1, 1, none⟩ = some (.int .i64 b1) ∧ w'.cell? ⟨w.heap.size + 1, 2, none⟩ = some (.slice A1 n1 c1))
        (((with_reducible refine unhide SIX _ ?_); (repeat (first | with_reducible exact unhide HBt2 | with_reducible exact unhide HBt1 | with_reducible exact unhide HBt0 | with_reducible exact Below.refl _ _ | with_reducible exact below_set3 (unhide HBt2) (by omega) _ _ _ | with_reducible refine Below.drew ?_ | (with_reducible refine Below.alloc ?_ ?_ _; rotate_left; focus ((first | omega | (simp <;> omega)); done))))))
        (first
          | (go_at_call 14; (with_reducible show Calls _ _ #[.agg #[.int .i64 a0, .int .i64 b0, _]] _ _); refine (toTrace_any a0 b0 A0 n0 c0 xs0 _ (unhide HRs0 _ ?_) hle0).mono ?_; (focus (repeat (first | with_reducible exact unhide HBt2 | with_reducible exact unhide HBt1 | with_reducible exact unhide HBt0 | with_reducible exact Below.refl _ _ | with_reducible exact below_set3 (unhide HBt2) (by omega) _ _ _ | with_reducible refine Below.drew ?_ | (with_reducible refine Below.alloc ?_ ?_ _; rotate_left; focus ((first | omega | (simp <;> omega)); done))))); rintro e wt0 ⟨At0, nt0, ct0, rfl, hOt, hbt⟩; have HBt0 : Hid (Below w14.heap.size w14 wt0) := hide (below_next (by repeat (first | with_reducible exact unhide HBt2 | with_reducible exact unhide HBt1 | with_reducible exact unhide HBt0 | with_reducible exact Below.refl _ _ | with_reducible exact below_set3 (unhide HBt2) (by omega) _ _ _ | with_reducible refine Below.drew ?_ | (with_reducible refine Below.alloc ?_ ?_ _; rotate_left; focus ((first | omega | (simp <;> omega)); done)))) hbt); have sz0 := (unhide HBt0).size; have HOt0 : Hid (OwnI wt0 w14.heap.size At0 nt0 ct0 xs0) := hide (hOt.less (by first | omega | (simp <;> omega))); have hnt0 : nt0 ≤ 1048576 := (by have := hOt.len; have := unhide HL0; omega); have hct0 : nt0 ≤ ct0 := ownR_cap (ownR_of hOt); have HQ0 := hide (fun (W : World) (hb : Below wt0.heap.size wt0 W) => ((unhide HOt0).ri.below hb).more hb.size); (first | (have U0 : Hid (Whl wt0 w14.heap.size 27 #[.int .i64 0, .int .i64 0, .slice none 0 0]) := (by with_reducible exact hide (Whl.below (by first | with_reducible exact Whl.here _ _ _ | with_reducible exact Whl.drew (Whl.here _ _ _)) hbt))) | skip); clear hOt hbt)
          | (go_at_call 14; (with_reducible show Calls _ _ #[.agg #[.int .i64 a1, .int .i64 b1, _]] _ _); refine (toTrace_any a1 b1 A1 n1 c1 xs1 _ (unhide HRs1 _ ?_) hle1).mono ?_; (focus (repeat (first | with_reducible exact unhide HBt2 | with_reducible exact unhide HBt1 | with_reducible exact unhide HBt0 | with_reducible exact Below.refl _ _ | with_reducible exact below_set3 (unhide HBt2) (by omega) _ _ _ | with_reducible refine Below.drew ?_ | (with_reducible refine Below.alloc ?_ ?_ _; rotate_left; focus ((first | omega | (simp <;> omega)); done))))); rintro e wt1 ⟨At1, nt1, ct1, rfl, hOt, hbt⟩; have HBt1 : Hid (Below w14.heap.size w14 wt1) := hide (below_next (by repeat (first | with_reducible exact unhide HBt2 | with_reducible exact unhide HBt1 | with_reducible exact unhide HBt0 | with_reducible exact Below.refl _ _ | with_reducible exact below_set3 (unhide HBt2) (by omega) _ _ _ | with_reducible refine Below.drew ?_ | (with_reducible refine Below.alloc ?_ ?_ _; rotate_left; focus ((first | omega | (simp <;> omega)); done)))) hbt); have szp := (unhide HBt0).size; have HC01 : Hid (Below wt0.heap.size wt0 wt1) := hide (below_next (by repeat (first | with_reducible exact unhide HBt2 | with_reducible exact unhide HBt1 | with_reducible exact unhide HBt0 | with_reducible exact Below.refl _ _ | with_reducible exact below_set3 (unhide HBt2) (by omega) _ _ _ | with_reducible refine Below.drew ?_ | (with_reducible refine Below.alloc ?_ ?_ _; rotate_left; focus ((first | omega | (simp <;> omega)); done)))) hbt); have sz1 := (unhide HBt1).size; have HOt1 : Hid (OwnI wt1 w14.heap.size At1 nt1 ct1 xs1) := hide (hOt.less (by first | omega | (simp <;> omega))); have hnt1 : nt1 ≤ 1048576 := (by have := hOt.len; have := unhide HL1; omega); have hct1 : nt1 ≤ ct1 := ownR_cap (ownR_of hOt); have HQ1 := hide (fun (W : World) (hb : Below wt1.heap.size wt1 W) => ((unhide HOt1).ri.below hb).more hb.size); (first | (have U1 : Hid (Whl wt1 w14.heap.size 27 #[.int .i64 0, .int .i64 0, .slice none 0 0]) := (by with_reducible exact hide (Whl.below (unhide U0) hbt))) | (have U1 : Hid (Whl wt1 wt0.heap.size 27 #[.int .i64 0, .int .i64 0, .slice none 0 0]) := (by with_reducible exact hide (Whl.below (Whl.here wt0 27 #[.int .i64 0, .int .i64 0, .slice none 0 0]) hbt))) | skip); clear hOt hbt)
          | (go_at_call 24; refine (unhide HI _ At0 nt0 ct0 At1 nt1 ct1 hnt0 hct0 (unhide HQ0 _ ?_) hnt1 hct1 (unhide HQ1 _ ?_)).mono ?_; (focus (repeat (first | with_reducible exact unhide HC01 | with_reducible exact Below.refl _ _ | (with_reducible refine Below.alloc ?_ ?_ _; rotate_left; focus ((first | omega | exact (unhide HC01).size | exact Nat.le_refl _ | (simp <;> omega)); done))))); (focus (repeat (first | with_reducible exact unhide HC01 | with_reducible exact Below.refl _ _ | (with_reducible refine Below.alloc ?_ ?_ _; rotate_left; focus ((first | omega | exact (unhide HC01).size | exact Nat.le_refl _ | (simp <;> omega)); done))))); rintro e wt2 ⟨A_, n_, c_, rfl, hOt, hbt⟩; have szp := (unhide HBt1).size; have HBt2 : Hid (Below w14.heap.size w14 wt2) := hide (below_next (by repeat (first | with_reducible exact unhide HBt2 | with_reducible exact unhide HBt1 | with_reducible exact unhide HBt0 | with_reducible exact Below.refl _ _ | with_reducible exact below_set3 (unhide HBt2) (by omega) _ _ _ | with_reducible refine Below.drew ?_ | (with_reducible refine Below.alloc ?_ ?_ _; rotate_left; focus ((first | omega | (simp <;> omega)); done)))) hbt); have sz2 := (unhide HBt2).size; have HOt2 : Hid (OwnI wt2 w14.heap.size A_ n_ c_ ys0) := hide (hOt.less (by first | omega | (simp <;> omega))); (first | (have U2 : Hid (Whl wt2 w14.heap.size 27 #[.int .i64 0, .int .i64 0, .slice none 0 0]) := (by with_reducible exact hide (Whl.below (unhide U1) hbt)); have u0 : wt2.cell? ⟨w14.heap.size, 0, none⟩ = some (.int .i64 0) := (unhide U2).cell 0; have u1 : wt2.cell? ⟨w14.heap.size, 1, none⟩ = some (.int .i64 0) := (unhide U2).cell 1; have u2 : wt2.cell? ⟨w14.heap.size, 2, none⟩ = some (.slice none 0 0) := (unhide U2).cell 2; have uf0 : wt2.frozen? ⟨w14.heap.size, 0, none⟩ = false := (unhide U2).frozen 0; have uf1 : wt2.frozen? ⟨w14.heap.size, 1, none⟩ = false := (unhide U2).frozen 1; have uf2 : wt2.frozen? ⟨w14.heap.size, 2, none⟩ = false := (unhide U2).frozen 2; have ul := (unhide U2).lt) | (have U2 : Hid (Whl wt2 wt0.heap.size 27 #[.int .i64 0, .int .i64 0, .slice none 0 0]) := (by with_reducible exact hide (Whl.below (unhide U1) hbt)); have u0 : wt2.cell? ⟨wt0.heap.size, 0, none⟩ = some (.int .i64 0) := (unhide U2).cell 0; have u1 : wt2.cell? ⟨wt0.heap.size, 1, none⟩ = some (.int .i64 0) := (unhide U2).cell 1; have u2 : wt2.cell? ⟨wt0.heap.size, 2, none⟩ = some (.slice none 0 0) := (unhide U2).cell 2; have uf0 : wt2.frozen? ⟨wt0.heap.size, 0, none⟩ = false := (unhide U2).frozen 0; have uf1 : wt2.frozen? ⟨wt0.heap.size, 1, none⟩ = false := (unhide U2).frozen 1; have uf2 : wt2.frozen? ⟨wt0.heap.size, 2, none⟩ = false := (unhide U2).frozen 2; have ul := (unhide U2).lt) | (have U2 : Hid (Whl wt2 wt1.heap.size 27 #[.int .i64 0, .int .i64 0, .slice none 0 0]) := (by with_reducible exact hide (Whl.below (Whl.here wt1 27 #[.int .i64 0, .int .i64 0, .slice none 0 0]) hbt)); have u0 : wt2.cell? ⟨wt1.heap.size, 0, none⟩ = some (.int .i64 0) := (unhide U2).cell 0; have u1 : wt2.cell? ⟨wt1.heap.size, 1, none⟩ = some (.int .i64 0) := (unhide U2).cell 1; have u2 : wt2.cell? ⟨wt1.heap.size, 2, none⟩ = some (.slice none 0 0) := (unhide U2).cell 2; have uf0 : wt2.frozen? ⟨wt1.heap.size, 0, none⟩ = false := (unhide U2).frozen 0; have uf1 : wt2.frozen? ⟨wt1.heap.size, 1, none⟩ = false := (unhide U2).frozen 1; have uf2 : wt2.frozen? ⟨wt1.heap.size, 2, none⟩ = false := (unhide U2).frozen 2; have ul := (unhide U2).lt) | skip); clear hOt hbt))
      all_goals
        go_wp2_with fail
        go_meet
        first | exact ⟨_, A_, n_, c_, rfl, rfl, hide (Whl.here _ _ _), (unhide HOt2).alloc _, (unhide HBt2).alloc sz2 _⟩ | exact ⟨_, A_, n_, c_, rfl, rfl, hide ((((unhide U2).store 0 _).store 1 _).store 2 _), own3 (unhide HOt2) (unhide U2) trace_ne_int' _ _ _, below_set3 (unhide HBt2) (by omega) _ _ _⟩
    case rest =>
      obtain ⟨g_h0, A_h0, n_h0, c_h0, rfl, rfl, hU, hO, hB⟩ := hcut
      generalize wc = w15 at *
      have hn_h0 : n_h0 ≤ 2097152 := by have := (unhide hO).len; have := unhide HY0; omega
      have hb15 := unhide hB
      have hP15_0 := unhide hO
      clear SIX HRs0 HRs1 hB
      have hq15 := hb15
      have z15 : w14.heap.size + 0 ≤ w15.heap.size := by have := hb15.size; (try simp at this); omega
      have HB15 := hide ((unhide HB14).trans (hq15.mono (unhide HB14).size))
      have Ow0_15 := hide ((unhide Ow0_14).below hq15 (Nat.le_refl _))
      clear Ow0_14
      have Ox0_15 := hide ((unhide Ox0_14).below hq15 (Nat.le_refl _))
      clear Ox0_14
      have Ox1_15 := hide ((unhide Ox1_14).below hq15 (Nat.le_refl _))
      clear Ox1_14
      have Og0_15 := hide ((unhide Og0_14).below hq15 (Nat.le_refl _))
      clear Og0_14
      have ma0_0_15 : w15.cell? ⟨w.heap.size, 0, none⟩ = some (.int .i64 a0) := (hq15.cell (p := ⟨w.heap.size, 0, none⟩) la0_14).trans ma0_0_14
      have ma0_1_15 : w15.cell? ⟨w.heap.size, 1, none⟩ = some (.int .i64 b0) := (hq15.cell (p := ⟨w.heap.size, 1, none⟩) la0_14).trans ma0_1_14
      have ma0_2_15 : w15.cell? ⟨w.heap.size, 2, none⟩ = some (.slice A0 n0 c0) := (hq15.cell (p := ⟨w.heap.size, 2, none⟩) la0_14).trans ma0_2_14
      have la0_15 : w.heap.size < w15.heap.size := Nat.lt_of_lt_of_le la0_14 hq15.size
      clear ma0_0_14 ma0_1_14 ma0_2_14 la0_14 
      have ma1_0_15 : w15.cell? ⟨w.heap.size + 1, 0, none⟩ = some (.int .i64 a1) := (hq15.cell (p := ⟨w.heap.size + 1, 0, none⟩) la1_14).trans ma1_0_14
      have ma1_1_15 : w15.cell? ⟨w.heap.size + 1, 1, none⟩ = some (.int .i64 b1) := (hq15.cell (p := ⟨w.heap.size + 1, 1, none⟩) la1_14).trans ma1_1_14
      have ma1_2_15 : w15.cell? ⟨w.heap.size + 1, 2, none⟩ = some (.slice A1 n1 c1) := (hq15.cell (p := ⟨w.heap.size + 1, 2, none⟩) la1_14).trans ma1_2_14
      have la1_15 : w.heap.size + 1 < w15.heap.size := Nat.lt_of_lt_of_le la1_14 hq15.size
      clear ma1_0_14 ma1_1_14 ma1_2_14 la1_14 
      have Uw0_15 := hide ((unhide Uw0_14).below hq15)
      clear Uw0_14 vw0_0_12 vw0_1_12 vw0_2_12 vlw0_12
      have vw0_0_13 : w15.cell? ⟨g_w0, 0, none⟩ = some (.int .i64 ra0) := (unhide Uw0_15).cell 0
      have vw0_1_13 : w15.cell? ⟨g_w0, 1, none⟩ = some (.int .i64 rb0) := (unhide Uw0_15).cell 1
      have vw0_2_13 : w15.cell? ⟨g_w0, 2, none⟩ = some (.slice A_w0 n_w0 c_w0) := (unhide Uw0_15).cell 2
      have vlw0_13 := (unhide Uw0_15).lt
      have mx0_0_15 : w15.cell? ⟨w4.heap.size, 0, none⟩ = some (.int .i64 a0) := (hq15.cell (p := ⟨w4.heap.size, 0, none⟩) lx0_14).trans mx0_0_14
      have mx0_1_15 : w15.cell? ⟨w4.heap.size, 1, none⟩ = some (.int .i64 b0) := (hq15.cell (p := ⟨w4.heap.size, 1, none⟩) lx0_14).trans mx0_1_14
      have mx0_2_15 : w15.cell? ⟨w4.heap.size, 2, none⟩ = some (.slice A_x0 n_x0 c_x0) := (hq15.cell (p := ⟨w4.heap.size, 2, none⟩) lx0_14).trans mx0_2_14
      have lx0_15 : w4.heap.size < w15.heap.size := Nat.lt_of_lt_of_le lx0_14 hq15.size
      clear mx0_0_14 mx0_1_14 mx0_2_14 lx0_14 
      have mx1_0_15 : w15.cell? ⟨w5.heap.size, 0, none⟩ = some (.int .i64 a1) := (hq15.cell (p := ⟨w5.heap.size, 0, none⟩) lx1_14).trans mx1_0_14
      have mx1_1_15 : w15.cell? ⟨w5.heap.size, 1, none⟩ = some (.int .i64 b1) := (hq15.cell (p := ⟨w5.heap.size, 1, none⟩) lx1_14).trans mx1_1_14
      have mx1_2_15 : w15.cell? ⟨w5.heap.size, 2, none⟩ = some (.slice A_x1 n_x1 c_x1) := (hq15.cell (p := ⟨w5.heap.size, 2, none⟩) lx1_14).trans mx1_2_14
      have lx1_15 : w5.heap.size < w15.heap.size := Nat.lt_of_lt_of_le lx1_14 hq15.size
      clear mx1_0_14 mx1_1_14 mx1_2_14 lx1_14 
      have mg0_0_15 : w15.cell? ⟨w6.heap.size, 0, none⟩ = some (.int .i64 ra0) := (hq15.cell (p := ⟨w6.heap.size, 0, none⟩) lg0_14).trans mg0_0_14
      have mg0_1_15 : w15.cell? ⟨w6.heap.size, 1, none⟩ = some (.int .i64 rb0) := (hq15.cell (p := ⟨w6.heap.size, 1, none⟩) lg0_14).trans mg0_1_14
      have mg0_2_15 : w15.cell? ⟨w6.heap.size, 2, none⟩ = some (.slice A_g0 n_g0 c_g0) := (hq15.cell (p := ⟨w6.heap.size, 2, none⟩) lg0_14).trans mg0_2_14
      have lg0_15 : w6.heap.size < w15.heap.size := Nat.lt_of_lt_of_le lg0_14 hq15.size
      clear mg0_0_14 mg0_1_14 mg0_2_14 lg0_14 
      clear hb15 hq15 HB14
      have Oh0_15 := hide (ownR_of (hP15_0))
      clear hP15_0
      have Uh0_15 := hU
      clear hU
      have vh0_0_14 : w15.cell? ⟨g_h0, 0, none⟩ = some (.int .i64 ra0) := (unhide Uh0_15).cell 0
      have vh0_1_14 : w15.cell? ⟨g_h0, 1, none⟩ = some (.int .i64 rb0) := (unhide Uh0_15).cell 1
      have vh0_2_14 : w15.cell? ⟨g_h0, 2, none⟩ = some (.slice A_h0 n_h0 c_h0) := (unhide Uh0_15).cell 2
      have vlh0_14 := (unhide Uh0_15).lt
      go_wp2_with fail
      refine (eqTrace_any ra0 rb0 ra0 rb0 A_h0 A_w0 n_h0 n_w0 c_h0 c_w0 ys0 ys0 _ ((unhide Oh0_15).ri) ((unhide Ow0_15).ri) (unhide Oh0_15).max (unhide Ow0_15).max).mono ?_
      rintro e w16 ⟨rfl, hb16⟩
      have hq16 := hb16
      have z16 : w15.heap.size + 0 ≤ w16.heap.size := by have := hb16.size; (try simp at this); omega
      have HB16 := hide ((unhide HB15).trans (hq16.mono (unhide HB15).size))
      have Ow0_16 := hide ((unhide Ow0_15).below hq16 (Nat.le_refl _))
      clear Ow0_15
      have Ox0_16 := hide ((unhide Ox0_15).below hq16 (Nat.le_refl _))
      clear Ox0_15
      have Ox1_16 := hide ((unhide Ox1_15).below hq16 (Nat.le_refl _))
      clear Ox1_15
      have Og0_16 := hide ((unhide Og0_15).below hq16 (Nat.le_refl _))
      clear Og0_15
      have Oh0_16 := hide ((unhide Oh0_15).below hq16 (Nat.le_refl _))
      clear Oh0_15
      have ma0_0_16 : w16.cell? ⟨w.heap.size, 0, none⟩ = some (.int .i64 a0) := (hq16.cell (p := ⟨w.heap.size, 0, none⟩) la0_15).trans ma0_0_15
      have ma0_1_16 : w16.cell? ⟨w.heap.size, 1, none⟩ = some (.int .i64 b0) := (hq16.cell (p := ⟨w.heap.size, 1, none⟩) la0_15).trans ma0_1_15
      have ma0_2_16 : w16.cell? ⟨w.heap.size, 2, none⟩ = some (.slice A0 n0 c0) := (hq16.cell (p := ⟨w.heap.size, 2, none⟩) la0_15).trans ma0_2_15
      have la0_16 : w.heap.size < w16.heap.size := Nat.lt_of_lt_of_le la0_15 hq16.size
      clear ma0_0_15 ma0_1_15 ma0_2_15 la0_15 
      have ma1_0_16 : w16.cell? ⟨w.heap.size + 1, 0, none⟩ = some (.int .i64 a1) := (hq16.cell (p := ⟨w.heap.size + 1, 0, none⟩) la1_15).trans ma1_0_15
      have ma1_1_16 : w16.cell? ⟨w.heap.size + 1, 1, none⟩ = some (.int .i64 b1) := (hq16.cell (p := ⟨w.heap.size + 1, 1, none⟩) la1_15).trans ma1_1_15
      have ma1_2_16 : w16.cell? ⟨w.heap.size + 1, 2, none⟩ = some (.slice A1 n1 c1) := (hq16.cell (p := ⟨w.heap.size + 1, 2, none⟩) la1_15).trans ma1_2_15
      have la1_16 : w.heap.size + 1 < w16.heap.size := Nat.lt_of_lt_of_le la1_15 hq16.size
      clear ma1_0_15 ma1_1_15 ma1_2_15 la1_15 
      have Uw0_16 := hide ((unhide Uw0_15).below hq16)
      clear Uw0_15 vw0_0_13 vw0_1_13 vw0_2_13 vlw0_13
      have vw0_0_15 : w16.cell? ⟨g_w0, 0, none⟩ = some (.int .i64 ra0) := (unhide Uw0_16).cell 0
      have vw0_1_15 : w16.cell? ⟨g_w0, 1, none⟩ = some (.int .i64 rb0) := (unhide Uw0_16).cell 1
      have vw0_2_15 : w16.cell? ⟨g_w0, 2, none⟩ = some (.slice A_w0 n_w0 c_w0) := (unhide Uw0_16).cell 2
      have vlw0_15 := (unhide Uw0_16).lt
      have mx0_0_16 : w16.cell? ⟨w4.heap.size, 0, none⟩ = some (.int .i64 a0) := (hq16.cell (p := ⟨w4.heap.size, 0, none⟩) lx0_15).trans mx0_0_15
      have mx0_1_16 : w16.cell? ⟨w4.heap.size, 1, none⟩ = some (.int .i64 b0) := (hq16.cell (p := ⟨w4.heap.size, 1, none⟩) lx0_15).trans mx0_1_15
      have mx0_2_16 : w16.cell? ⟨w4.heap.size, 2, none⟩ = some (.slice A_x0 n_x0 c_x0) := (hq16.cell (p := ⟨w4.heap.size, 2, none⟩) lx0_15).trans mx0_2_15
      have lx0_16 : w4.heap.size < w16.heap.size := Nat.lt_of_lt_of_le lx0_15 hq16.size
      clear mx0_0_15 mx0_1_15 mx0_2_15 lx0_15 
      have mx1_0_16 : w16.cell? ⟨w5.heap.size, 0, none⟩ = some (.int .i64 a1) := (hq16.cell (p := ⟨w5.heap.size, 0, none⟩) lx1_15).trans mx1_0_15
      have mx1_1_16 : w16.cell? ⟨w5.heap.size, 1, none⟩ = some (.int .i64 b1) := (hq16.cell (p := ⟨w5.heap.size, 1, none⟩) lx1_15).trans mx1_1_15
      have mx1_2_16 : w16.cell? ⟨w5.heap.size, 2, none⟩ = some (.slice A_x1 n_x1 c_x1) := (hq16.cell (p := ⟨w5.heap.size, 2, none⟩) lx1_15).trans mx1_2_15
      have lx1_16 : w5.heap.size < w16.heap.size := Nat.lt_of_lt_of_le lx1_15 hq16.size
      clear mx1_0_15 mx1_1_15 mx1_2_15 lx1_15 
      have mg0_0_16 : w16.cell? ⟨w6.heap.size, 0, none⟩ = some (.int .i64 ra0) := (hq16.cell (p := ⟨w6.heap.size, 0, none⟩) lg0_15).trans mg0_0_15
      have mg0_1_16 : w16.cell? ⟨w6.heap.size, 1, none⟩ = some (.int .i64 rb0) := (hq16.cell (p := ⟨w6.heap.size, 1, none⟩) lg0_15).trans mg0_1_15
      have mg0_2_16 : w16.cell? ⟨w6.heap.size, 2, none⟩ = some (.slice A_g0 n_g0 c_g0) := (hq16.cell (p := ⟨w6.heap.size, 2, none⟩) lg0_15).trans mg0_2_15
      have lg0_16 : w6.heap.size < w16.heap.size := Nat.lt_of_lt_of_le lg0_15 hq16.size
      clear mg0_0_15 mg0_1_15 mg0_2_15 lg0_15 
      have Uh0_16 := hide ((unhide Uh0_15).below hq16)
      clear Uh0_15 vh0_0_14 vh0_1_14 vh0_2_14 vlh0_14
      have vh0_0_16 : w16.cell? ⟨g_h0, 0, none⟩ = some (.int .i64 ra0) := (unhide Uh0_16).cell 0
      have vh0_1_16 : w16.cell? ⟨g_h0, 1, none⟩ = some (.int .i64 rb0) := (unhide Uh0_16).cell 1
      have vh0_2_16 : w16.cell? ⟨g_h0, 2, none⟩ = some (.slice A_h0 n_h0 c_h0) := (unhide Uh0_16).cell 2
      have vlh0_16 := (unhide Uh0_16).lt
      clear hb16 hq16 HB15
      go_wp2_with fail
      refine (heldTrace_any ra0 rb0 A_g0 n_g0 c_g0 _ _ ((unhide Og0_16).ri) (by omega) (by omega) (by omega)).mono ?_
      rintro e w17 ⟨rfl, hb17⟩
      have hq17 := hb17
      have z17 : w16.heap.size + 0 ≤ w17.heap.size := by have := hb17.size; (try simp at this); omega
      have HB17 := hide ((unhide HB16).trans (hq17.mono (unhide HB16).size))
      have Ow0_17 := hide ((unhide Ow0_16).below hq17 (Nat.le_refl _))
      clear Ow0_16
      have Ox0_17 := hide ((unhide Ox0_16).below hq17 (Nat.le_refl _))
      clear Ox0_16
      have Ox1_17 := hide ((unhide Ox1_16).below hq17 (Nat.le_refl _))
      clear Ox1_16
      have Og0_17 := hide ((unhide Og0_16).below hq17 (Nat.le_refl _))
      clear Og0_16
      have Oh0_17 := hide ((unhide Oh0_16).below hq17 (Nat.le_refl _))
      clear Oh0_16
      have ma0_0_17 : w17.cell? ⟨w.heap.size, 0, none⟩ = some (.int .i64 a0) := (hq17.cell (p := ⟨w.heap.size, 0, none⟩) la0_16).trans ma0_0_16
      have ma0_1_17 : w17.cell? ⟨w.heap.size, 1, none⟩ = some (.int .i64 b0) := (hq17.cell (p := ⟨w.heap.size, 1, none⟩) la0_16).trans ma0_1_16
      have ma0_2_17 : w17.cell? ⟨w.heap.size, 2, none⟩ = some (.slice A0 n0 c0) := (hq17.cell (p := ⟨w.heap.size, 2, none⟩) la0_16).trans ma0_2_16
      have la0_17 : w.heap.size < w17.heap.size := Nat.lt_of_lt_of_le la0_16 hq17.size
      clear ma0_0_16 ma0_1_16 ma0_2_16 la0_16 
      have ma1_0_17 : w17.cell? ⟨w.heap.size + 1, 0, none⟩ = some (.int .i64 a1) := (hq17.cell (p := ⟨w.heap.size + 1, 0, none⟩) la1_16).trans ma1_0_16
      have ma1_1_17 : w17.cell? ⟨w.heap.size + 1, 1, none⟩ = some (.int .i64 b1) := (hq17.cell (p := ⟨w.heap.size + 1, 1, none⟩) la1_16).trans ma1_1_16
      have ma1_2_17 : w17.cell? ⟨w.heap.size + 1, 2, none⟩ = some (.slice A1 n1 c1) := (hq17.cell (p := ⟨w.heap.size + 1, 2, none⟩) la1_16).trans ma1_2_16
      have la1_17 : w.heap.size + 1 < w17.heap.size := Nat.lt_of_lt_of_le la1_16 hq17.size
      clear ma1_0_16 ma1_1_16 ma1_2_16 la1_16 
      have Uw0_17 := hide ((unhide Uw0_16).below hq17)
      clear Uw0_16 vw0_0_15 vw0_1_15 vw0_2_15 vlw0_15
      have vw0_0_17 : w17.cell? ⟨g_w0, 0, none⟩ = some (.int .i64 ra0) := (unhide Uw0_17).cell 0
      have vw0_1_17 : w17.cell? ⟨g_w0, 1, none⟩ = some (.int .i64 rb0) := (unhide Uw0_17).cell 1
      have vw0_2_17 : w17.cell? ⟨g_w0, 2, none⟩ = some (.slice A_w0 n_w0 c_w0) := (unhide Uw0_17).cell 2
      have vlw0_17 := (unhide Uw0_17).lt
      have mx0_0_17 : w17.cell? ⟨w4.heap.size, 0, none⟩ = some (.int .i64 a0) := (hq17.cell (p := ⟨w4.heap.size, 0, none⟩) lx0_16).trans mx0_0_16
      have mx0_1_17 : w17.cell? ⟨w4.heap.size, 1, none⟩ = some (.int .i64 b0) := (hq17.cell (p := ⟨w4.heap.size, 1, none⟩) lx0_16).trans mx0_1_16
      have mx0_2_17 : w17.cell? ⟨w4.heap.size, 2, none⟩ = some (.slice A_x0 n_x0 c_x0) := (hq17.cell (p := ⟨w4.heap.size, 2, none⟩) lx0_16).trans mx0_2_16
      have lx0_17 : w4.heap.size < w17.heap.size := Nat.lt_of_lt_of_le lx0_16 hq17.size
      clear mx0_0_16 mx0_1_16 mx0_2_16 lx0_16 
      have mx1_0_17 : w17.cell? ⟨w5.heap.size, 0, none⟩ = some (.int .i64 a1) := (hq17.cell (p := ⟨w5.heap.size, 0, none⟩) lx1_16).trans mx1_0_16
      have mx1_1_17 : w17.cell? ⟨w5.heap.size, 1, none⟩ = some (.int .i64 b1) := (hq17.cell (p := ⟨w5.heap.size, 1, none⟩) lx1_16).trans mx1_1_16
      have mx1_2_17 : w17.cell? ⟨w5.heap.size, 2, none⟩ = some (.slice A_x1 n_x1 c_x1) := (hq17.cell (p := ⟨w5.heap.size, 2, none⟩) lx1_16).trans mx1_2_16
      have lx1_17 : w5.heap.size < w17.heap.size := Nat.lt_of_lt_of_le lx1_16 hq17.size
      clear mx1_0_16 mx1_1_16 mx1_2_16 lx1_16 
      have mg0_0_17 : w17.cell? ⟨w6.heap.size, 0, none⟩ = some (.int .i64 ra0) := (hq17.cell (p := ⟨w6.heap.size, 0, none⟩) lg0_16).trans mg0_0_16
      have mg0_1_17 : w17.cell? ⟨w6.heap.size, 1, none⟩ = some (.int .i64 rb0) := (hq17.cell (p := ⟨w6.heap.size, 1, none⟩) lg0_16).trans mg0_1_16
      have mg0_2_17 : w17.cell? ⟨w6.heap.size, 2, none⟩ = some (.slice A_g0 n_g0 c_g0) := (hq17.cell (p := ⟨w6.heap.size, 2, none⟩) lg0_16).trans mg0_2_16
      have lg0_17 : w6.heap.size < w17.heap.size := Nat.lt_of_lt_of_le lg0_16 hq17.size
      clear mg0_0_16 mg0_1_16 mg0_2_16 lg0_16 
      have Uh0_17 := hide ((unhide Uh0_16).below hq17)
      clear Uh0_16 vh0_0_16 vh0_1_16 vh0_2_16 vlh0_16
      have vh0_0_18 : w17.cell? ⟨g_h0, 0, none⟩ = some (.int .i64 ra0) := (unhide Uh0_17).cell 0
      have vh0_1_18 : w17.cell? ⟨g_h0, 1, none⟩ = some (.int .i64 rb0) := (unhide Uh0_17).cell 1
      have vh0_2_18 : w17.cell? ⟨g_h0, 2, none⟩ = some (.slice A_h0 n_h0 c_h0) := (unhide Uh0_17).cell 2
      have vlh0_18 := (unhide Uh0_17).lt
      clear hb17 hq17 HB16
      go_wp2_with fail
      go_ret
      exact ⟨rfl, unhide HB17⟩
end Go.Proofs.Ytdpmpdhhjmbbcaa
