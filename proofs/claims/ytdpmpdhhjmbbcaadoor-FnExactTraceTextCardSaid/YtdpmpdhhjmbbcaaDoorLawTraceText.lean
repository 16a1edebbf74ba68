/- The walk of the law FnExactTraceText: it says true, at every input; what was there stays as it was. By gen_law2.py. -/
import Derived.Test.YtdpmpdhhjmbbcaaDoorProg
import Derived.Test.YtdpmpdhhjmbbcaaDoorTraceA
import Derived.Test.YtdpmpdhhjmbbcaaDoorTrText
import Derived.Deep.RegionHeld3
namespace Go.Proofs.YtdpmpdhhjmbbcaaDoor
open Go.RowKit
set_option linter.unusedVariables false

set_option maxHeartbeats 4000000 in
set_option maxRecDepth 100000 in
theorem law_TraceText (a0 b0 : Int) (A0 : Option Addr) (n0 c0 : Nat) (xs0 : List Int) (w : World) (hr0 : RI w w.heap.size A0 n0 xs0) (hm0 : n0 ≤ 9223372036854775807) (hia0 : -9223372036854775808 ≤ a0 ∧ a0 ≤ 9223372036854775807) (hib0 : -9223372036854775808 ≤ b0 ∧ b0 ≤ 9223372036854775807) (hv : Tab w) :
    Calls Tryd.prog 3 #[.agg #[.int .i64 a0, .int .i64 b0, .slice A0 n0 c0]] w fun e w' => e = .returned (.bool true) ∧ Below w.heap.size w w' := by
  by_cases hbig0 : 1048576 - (n0 : Int) < 0
  · have hz : szI (1048576) n0 = -1 := by unfold szI; rw [if_pos hbig0]
    have Z := fun W => szTrace_any a0 b0 A0 n0 c0 (1048576) W (by omega) (by omega) hm0
    rw [hz] at Z
    have HZ := hide Z
    clear Z hz hr0
    go_enter Tryd.func3, Tryd.ntmps3
    go_wp2_with fail
    refine (unhide HZ _).mono ?_
    rintro e w1 ⟨rfl, hb1⟩
    have HB1 := hide hb1
    clear hb1
    go_wp2_with fail
    go_ret
    exact ⟨rfl, (((Below.refl _ w)).alloc (by simp <;> omega) _).trans ((unhide HB1).mono (by simp <;> omega))⟩
  have hle0 : n0 ≤ 1048576 := by omega
  have HZ0 : Hid (∀ W, Calls Tryd.prog 5 #[.agg #[.int .i64 a0, .int .i64 b0, .slice A0 n0 c0], .int .i64 (1048576)] W fun e w' => e = .returned (.int .i64 (1048576 - (n0 : Int))) ∧ Below W.heap.size W w') := by
    intro W
    have Z := szTrace_any a0 b0 A0 n0 c0 (1048576) W (by omega) (by omega) hm0
    have hz : szI (1048576) n0 = 1048576 - (n0 : Int) := by unfold szI; rw [if_neg hbig0]
    rwa [hz] at Z
  obtain ⟨r0, r1, HS, HI⟩ : ∃ (r0 : ByteArray) (r1 : Bool), Hid (∀ (W : World) (A0' : Option Addr) (n0' c0' : Nat), n0' ≤ 1048576 → n0' ≤ c0' → RI W W.heap.size A0' n0' xs0 → Calls Tryd.prog 6 #[.agg #[.int .i64 a0, .int .i64 b0, .slice A0' n0' c0']] W (RetSB W r0 r1)) ∧ Hid (∀ (W : World), Tab W → ∀ (A0' : Option Addr) (n0' c0' : Nat), n0' ≤ 1048576 → n0' ≤ c0' → RI W W.heap.size A0' n0' xs0 → Calls Tryd.prog 8 #[.agg #[.int .i64 a0, .int .i64 b0, .slice A0' n0' c0']] W (RetSB W r0 r1)) :=
    ⟨_, _, fun W A0' n0' c0' h0' q0' g0' => specTraceText_any a0 b0 A0' n0' c0' xs0 W g0' h0', fun W hv A0' n0' c0' h0' q0' g0' => implTraceText_any a0 b0 A0' n0' c0' xs0 W g0' h0' hv⟩
  have HR0 := hide hr0
  have HL0 := hide hr0.len
  clear hr0 hbig0
  have HV := hide hv
  clear hv
  have HB0 := hide (Below.refl w.heap.size w)
  go_enter Tryd.func3, Tryd.ntmps3
  go_wp2_with fail
  refine (unhide HZ0 _).mono ?_
  rintro e w1 ⟨rfl, hb1⟩
  have hq1 : Below w.heap.size w w1 := (((Below.refl _ w)).alloc (by simp <;> omega) _).trans (hb1.mono (by simp <;> omega))
  have z1 : w.heap.size + 1 ≤ w1.heap.size := by have := hb1.size; (try simp at this); omega
  have HB1 := hide ((unhide HB0).trans (hq1.mono (unhide HB0).size))
  have ma0_0_1 : w1.cell? ⟨w.heap.size, 0, none⟩ = some (.int .i64 a0) := (hb1.cell (p := ⟨w.heap.size, 0, none⟩) (by simp <;> omega)).trans (by simp)
  have ma0_1_1 : w1.cell? ⟨w.heap.size, 1, none⟩ = some (.int .i64 b0) := (hb1.cell (p := ⟨w.heap.size, 1, none⟩) (by simp <;> omega)).trans (by simp)
  have ma0_2_1 : w1.cell? ⟨w.heap.size, 2, none⟩ = some (.slice A0 n0 c0) := (hb1.cell (p := ⟨w.heap.size, 2, none⟩) (by simp <;> omega)).trans (by simp)
  have la0_1 : w.heap.size < w1.heap.size := by omega
  clear hb1 hq1 HB0
  go_wp2_with fail
  refine (toTrace_any a0 b0 A0 n0 c0 xs0 _ (((unhide HR0).below (unhide HB1)).more (unhide HB1).size) hle0).mono ?_
  rintro e w2 ⟨A_p0, n_p0, c_p0, rfl, hO2, hb2⟩
  have hn_p0 : n_p0 ≤ 1048576 := by have := hO2.len; have := unhide HL0; omega
  have hP2 : OwnI w2 (w1.heap.size + 0) A_p0 n_p0 c_p0 xs0 := hO2.less (by simp)
  clear hO2
  have hq2 := hb2
  have z2 : w1.heap.size + 0 ≤ w2.heap.size := by have := hb2.size; (try simp at this); omega
  have HB2 := hide ((unhide HB1).trans (hq2.mono (unhide HB1).size))
  have ma0_0_2 : w2.cell? ⟨w.heap.size, 0, none⟩ = some (.int .i64 a0) := (hq2.cell (p := ⟨w.heap.size, 0, none⟩) la0_1).trans ma0_0_1
  have ma0_1_2 : w2.cell? ⟨w.heap.size, 1, none⟩ = some (.int .i64 b0) := (hq2.cell (p := ⟨w.heap.size, 1, none⟩) la0_1).trans ma0_1_1
  have ma0_2_2 : w2.cell? ⟨w.heap.size, 2, none⟩ = some (.slice A0 n0 c0) := (hq2.cell (p := ⟨w.heap.size, 2, none⟩) la0_1).trans ma0_2_1
  have la0_2 : w.heap.size < w2.heap.size := Nat.lt_of_lt_of_le la0_1 hq2.size
  clear ma0_0_1 ma0_1_1 ma0_2_1 la0_1 
  clear hb2 hq2 HB1
  have Op0_2 := hide (ownR_of (hP2))
  clear hP2
  go_wp2_with fail
  refine (unhide HS _ A_p0 n_p0 c_p0 hn_p0 (ownR_cap (unhide Op0_2)) ((unhide Op0_2).ri)).mono ?_
  rintro e w3 ⟨rfl, hb3⟩
  have hq3 := hb3
  have z3 : w2.heap.size + 0 ≤ w3.heap.size := by have := hb3.size; (try simp at this); omega
  have HB3 := hide ((unhide HB2).trans (hq3.mono (unhide HB2).size))
  have Op0_3 := hide ((unhide Op0_2).below hq3 (Nat.le_refl _))
  clear Op0_2
  have ma0_0_3 : w3.cell? ⟨w.heap.size, 0, none⟩ = some (.int .i64 a0) := (hq3.cell (p := ⟨w.heap.size, 0, none⟩) la0_2).trans ma0_0_2
  have ma0_1_3 : w3.cell? ⟨w.heap.size, 1, none⟩ = some (.int .i64 b0) := (hq3.cell (p := ⟨w.heap.size, 1, none⟩) la0_2).trans ma0_1_2
  have ma0_2_3 : w3.cell? ⟨w.heap.size, 2, none⟩ = some (.slice A0 n0 c0) := (hq3.cell (p := ⟨w.heap.size, 2, none⟩) la0_2).trans ma0_2_2
  have la0_3 : w.heap.size < w3.heap.size := Nat.lt_of_lt_of_le la0_2 hq3.size
  clear ma0_0_2 ma0_1_2 ma0_2_2 la0_2 
  clear hb3 hq3 HB2
  clear Op0_3
  go_wp2_with fail
  refine (toTrace_any a0 b0 A0 n0 c0 xs0 _ (((unhide HR0).below (unhide HB3)).more (unhide HB3).size) hle0).mono ?_
  rintro e w4 ⟨A_x0, n_x0, c_x0, rfl, hO4, hb4⟩
  have hn_x0 : n_x0 ≤ 1048576 := by have := hO4.len; have := unhide HL0; omega
  have hP4 : OwnI w4 (w3.heap.size + 0) A_x0 n_x0 c_x0 xs0 := hO4.less (by simp)
  clear hO4
  have hq4 := hb4
  have z4 : w3.heap.size + 0 ≤ w4.heap.size := by have := hb4.size; (try simp at this); omega
  have HB4 := hide ((unhide HB3).trans (hq4.mono (unhide HB3).size))
  have ma0_0_4 : w4.cell? ⟨w.heap.size, 0, none⟩ = some (.int .i64 a0) := (hq4.cell (p := ⟨w.heap.size, 0, none⟩) la0_3).trans ma0_0_3
  have ma0_1_4 : w4.cell? ⟨w.heap.size, 1, none⟩ = some (.int .i64 b0) := (hq4.cell (p := ⟨w.heap.size, 1, none⟩) la0_3).trans ma0_1_3
  have ma0_2_4 : w4.cell? ⟨w.heap.size, 2, none⟩ = some (.slice A0 n0 c0) := (hq4.cell (p := ⟨w.heap.size, 2, none⟩) la0_3).trans ma0_2_3
  have la0_4 : w.heap.size < w4.heap.size := Nat.lt_of_lt_of_le la0_3 hq4.size
  clear ma0_0_3 ma0_1_3 ma0_2_3 la0_3 
  clear hb4 hq4 HB3
  have Ox0_4 := hide (ownR_of (hP4))
  clear hP4
  have qa0_0_4 : ∀ o : Obj, (w4.alloc o).cell? ⟨w.heap.size, 0, none⟩ = some (.int .i64 a0) := fun o => (World.cell?_alloc_lt w4 o ⟨w.heap.size, 0, none⟩ la0_4).trans ma0_0_4
  have qa0_1_4 : ∀ o : Obj, (w4.alloc o).cell? ⟨w.heap.size, 1, none⟩ = some (.int .i64 b0) := fun o => (World.cell?_alloc_lt w4 o ⟨w.heap.size, 1, none⟩ la0_4).trans ma0_1_4
  have qa0_2_4 : ∀ o : Obj, (w4.alloc o).cell? ⟨w.heap.size, 2, none⟩ = some (.slice A0 n0 c0) := fun o => (World.cell?_alloc_lt w4 o ⟨w.heap.size, 2, none⟩ la0_4).trans ma0_2_4
  have tt0_4 : (r0.toList != r0.toList) = false := by simp
  go_wp2_with fail
  refine (unhide HI _ (((unhide HV).stays (unhide HB4)).stays ((Below.refl _ _).alloc (Nat.le_refl _) _)) A_x0 n_x0 c_x0 hn_x0 (ownR_cap (unhide Ox0_4)) ((((unhide Ox0_4).ri).alloc (Nat.le_refl _) _).more (by simp))).mono ?_
  rintro e w5 ⟨rfl, hb5⟩
  have hq5 : Below w4.heap.size w4 w5 := (((Below.refl _ w4)).alloc (by simp <;> omega) _).trans (hb5.mono (by simp <;> omega))
  have z5 : w4.heap.size + 1 ≤ w5.heap.size := by have := hb5.size; (try simp at this); omega
  have HB5 := hide ((unhide HB4).trans (hq5.mono (unhide HB4).size))
  have Ox0_5 := hide ((unhide Ox0_4).below hq5 (Nat.le_refl _))
  clear Ox0_4
  have ma0_0_5 : w5.cell? ⟨w.heap.size, 0, none⟩ = some (.int .i64 a0) := (hq5.cell (p := ⟨w.heap.size, 0, none⟩) la0_4).trans ma0_0_4
  have ma0_1_5 : w5.cell? ⟨w.heap.size, 1, none⟩ = some (.int .i64 b0) := (hq5.cell (p := ⟨w.heap.size, 1, none⟩) la0_4).trans ma0_1_4
  have ma0_2_5 : w5.cell? ⟨w.heap.size, 2, none⟩ = some (.slice A0 n0 c0) := (hq5.cell (p := ⟨w.heap.size, 2, none⟩) la0_4).trans ma0_2_4
  have la0_5 : w.heap.size < w5.heap.size := Nat.lt_of_lt_of_le la0_4 hq5.size
  clear ma0_0_4 ma0_1_4 ma0_2_4 la0_4 qa0_0_4 qa0_1_4 qa0_2_4
  have mx0_0_5 : w5.cell? ⟨w4.heap.size, 0, none⟩ = some (.int .i64 a0) := (hb5.cell (p := ⟨w4.heap.size, 0, none⟩) (by simp <;> omega)).trans (by simp)
  have mx0_1_5 : w5.cell? ⟨w4.heap.size, 1, none⟩ = some (.int .i64 b0) := (hb5.cell (p := ⟨w4.heap.size, 1, none⟩) (by simp <;> omega)).trans (by simp)
  have mx0_2_5 : w5.cell? ⟨w4.heap.size, 2, none⟩ = some (.slice A_x0 n_x0 c_x0) := (hb5.cell (p := ⟨w4.heap.size, 2, none⟩) (by simp <;> omega)).trans (by simp)
  have lx0_5 : w4.heap.size < w5.heap.size := by omega
  clear hb5 hq5 HB4
  go_wp2_with fail
  go_region_held3 (fun w' => w'.cell? ⟨w4.heap.size, 0, none⟩ = some (.int .i64 a0) ∧ w'.cell? ⟨w4.heap.size, 1, none⟩ = some (.int .i64 b0) ∧ w'.cell? ⟨w4.heap.size, 2, none⟩ = some (.slice A_x0 n_x0 c_x0) ∧ w'.cell? ⟨w.heap.size, 0, none⟩ = some (.int .i64 a0) ∧ w'.cell? ⟨w.heap.size, 1, none⟩ = some (.int .i64 b0) ∧ w'.cell? ⟨w.heap.size, 2, none⟩ = some (.slice A0 n0 c0))
    (first | go_keep | exact ⟨(hby.cell (p := ⟨w4.heap.size, 0, none⟩) lx0_5).trans mx0_0_5, (hby.cell (p := ⟨w4.heap.size, 1, none⟩) lx0_5).trans mx0_1_5, (hby.cell (p := ⟨w4.heap.size, 2, none⟩) lx0_5).trans mx0_2_5, (hby.cell (p := ⟨w.heap.size, 0, none⟩) la0_5).trans ma0_0_5, (hby.cell (p := ⟨w.heap.size, 1, none⟩) la0_5).trans ma0_1_5, (hby.cell (p := ⟨w.heap.size, 2, none⟩) la0_5).trans ma0_2_5⟩ | exact ⟨(hbz.cell (p := ⟨w4.heap.size, 0, none⟩) (Nat.lt_of_lt_of_le lx0_5 hby.size)).trans ((hby.cell (p := ⟨w4.heap.size, 0, none⟩) lx0_5).trans mx0_0_5), (hbz.cell (p := ⟨w4.heap.size, 1, none⟩) (Nat.lt_of_lt_of_le lx0_5 hby.size)).trans ((hby.cell (p := ⟨w4.heap.size, 1, none⟩) lx0_5).trans mx0_1_5), (hbz.cell (p := ⟨w4.heap.size, 2, none⟩) (Nat.lt_of_lt_of_le lx0_5 hby.size)).trans ((hby.cell (p := ⟨w4.heap.size, 2, none⟩) lx0_5).trans mx0_2_5), (hbz.cell (p := ⟨w.heap.size, 0, none⟩) (Nat.lt_of_lt_of_le la0_5 hby.size)).trans ((hby.cell (p := ⟨w.heap.size, 0, none⟩) la0_5).trans ma0_0_5), (hbz.cell (p := ⟨w.heap.size, 1, none⟩) (Nat.lt_of_lt_of_le la0_5 hby.size)).trans ((hby.cell (p := ⟨w.heap.size, 1, none⟩) la0_5).trans ma0_1_5), (hbz.cell (p := ⟨w.heap.size, 2, none⟩) (Nat.lt_of_lt_of_le la0_5 hby.size)).trans ((hby.cell (p := ⟨w.heap.size, 2, none⟩) la0_5).trans ma0_2_5)⟩)
    (first
      | (go_at_call 7; refine (toTrace_any a0 b0 A0 n0 c0 xs0 _ (by exact ((unhide HR0).below (unhide HB5)).more (unhide HB5).size) hle0).mono ?_; rintro e wy ⟨A_y, n_y, c_y, rfl, hOy, hby⟩)
      | (go_at_call 9; refine (eqTrace_any a0 b0 a0 b0 A_x0 A_y n_x0 n_y c_x0 c_y xs0 xs0 _ (by exact (((unhide Ox0_5).ri).below ((Below.refl _ w5).drew.trans hby)).more hby.size) (by exact hOy.ri) (unhide Ox0_5).max hOy.max).mono ?_; rintro e w6 ⟨rfl, hbz⟩))
  clear hOy
  have hq6 : Below w5.heap.size w5 w6 := ((Below.refl _ w5).drew.trans hby).trans (hbz.mono hby.size)
  have z6 : w5.heap.size + 0 ≤ w6.heap.size := by have := hq6.size; (try simp at this); omega
  have HB6 := hide ((unhide HB5).trans (hq6.mono (unhide HB5).size))
  have Ox0_6 := hide ((unhide Ox0_5).below hq6 (Nat.le_refl _))
  clear Ox0_5
  have ma0_0_6 : w6.cell? ⟨w.heap.size, 0, none⟩ = some (.int .i64 a0) := (hq6.cell (p := ⟨w.heap.size, 0, none⟩) la0_5).trans ma0_0_5
  have ma0_1_6 : w6.cell? ⟨w.heap.size, 1, none⟩ = some (.int .i64 b0) := (hq6.cell (p := ⟨w.heap.size, 1, none⟩) la0_5).trans ma0_1_5
  have ma0_2_6 : w6.cell? ⟨w.heap.size, 2, none⟩ = some (.slice A0 n0 c0) := (hq6.cell (p := ⟨w.heap.size, 2, none⟩) la0_5).trans ma0_2_5
  have la0_6 : w.heap.size < w6.heap.size := Nat.lt_of_lt_of_le la0_5 hq6.size
  clear ma0_0_5 ma0_1_5 ma0_2_5 la0_5 
  have mx0_0_6 : w6.cell? ⟨w4.heap.size, 0, none⟩ = some (.int .i64 a0) := (hq6.cell (p := ⟨w4.heap.size, 0, none⟩) lx0_5).trans mx0_0_5
  have mx0_1_6 : w6.cell? ⟨w4.heap.size, 1, none⟩ = some (.int .i64 b0) := (hq6.cell (p := ⟨w4.heap.size, 1, none⟩) lx0_5).trans mx0_1_5
  have mx0_2_6 : w6.cell? ⟨w4.heap.size, 2, none⟩ = some (.slice A_x0 n_x0 c_x0) := (hq6.cell (p := ⟨w4.heap.size, 2, none⟩) lx0_5).trans mx0_2_5
  have lx0_6 : w4.heap.size < w6.heap.size := Nat.lt_of_lt_of_le lx0_5 hq6.size
  clear mx0_0_5 mx0_1_5 mx0_2_5 lx0_5 
  clear hby hbz hq6 HB5
  go_wp2_with fail
  go_ret
  exact ⟨rfl, unhide HB6⟩
end Go.Proofs.YtdpmpdhhjmbbcaaDoor
