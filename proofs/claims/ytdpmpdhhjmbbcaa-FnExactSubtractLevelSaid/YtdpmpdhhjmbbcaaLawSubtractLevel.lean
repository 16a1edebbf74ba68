/- The walk of the law FnExactSubtractLevel: it says true, at every input; what was there stays as it was. By gen_law2.py. -/
import Derived.Test.YtdpmpdhhjmbbcaaProg
import Derived.Test.YtdpmpdhhjmbbcaaTraceA
import Derived.Test.YtdpmpdhhjmbbcaaTraceH
import Derived.Deep.RegionHeld3
namespace Go.Proofs.Ytdpmpdhhjmbbcaa
open Go.RowKit
set_option linter.unusedVariables false

set_option maxHeartbeats 4000000 in
set_option maxRecDepth 100000 in
theorem law_SubtractLevel (a0 b0 : Int) (A0 : Option Addr) (n0 c0 : Nat) (xs0 : List Int) (a1 : Int) (w : World) (hr0 : RI w w.heap.size A0 n0 xs0) (hm0 : n0 ≤ 9223372036854775807) (hia0 : -9223372036854775808 ≤ a0 ∧ a0 ≤ 9223372036854775807) (hib0 : -9223372036854775808 ≤ b0 ∧ b0 ≤ 9223372036854775807) (hi1 : -9223372036854775808 ≤ a1 ∧ a1 ≤ 9223372036854775807) :
    Calls Try.prog 9 #[.agg #[.int .i64 a0, .int .i64 b0, .slice A0 n0 c0], .int .i64 a1] w fun e w' => e = .returned (.bool true) ∧ Below w.heap.size w w' := by
  by_cases hbig0 : 1048576 - (n0 : Int) < 0
  · have hz : szI (1048576) n0 = -1 := by unfold szI; rw [if_pos hbig0]
    have Z := fun W => szTrace_any a0 b0 A0 n0 c0 (1048576) W (by omega) (by omega) hm0
    rw [hz] at Z
    have HZ := hide Z
    clear Z hz hr0
    go_enter Try.func9, Try.ntmps9
    go_wp2_with fail
    refine (unhide HZ _).mono ?_
    rintro e w1 ⟨rfl, hb1⟩
    have HB1 := hide hb1
    clear hb1
    go_wp2_with fail
    go_ret
    exact ⟨rfl, (((Below.refl _ w)).alloc (by simp <;> omega) _).trans ((unhide HB1).mono (by simp <;> omega))⟩
  have hle0 : n0 ≤ 1048576 := by omega
  have HZ0 : Hid (∀ W, Calls Try.prog 12 #[.agg #[.int .i64 a0, .int .i64 b0, .slice A0 n0 c0], .int .i64 (1048576)] W fun e w' => e = .returned (.int .i64 (1048576 - (n0 : Int))) ∧ Below W.heap.size W w') := by
    intro W
    have Z := szTrace_any a0 b0 A0 n0 c0 (1048576) W (by omega) (by omega) hm0
    have hz : szI (1048576) n0 = 1048576 - (n0 : Int) := by unfold szI; rw [if_neg hbig0]
    rwa [hz] at Z
  obtain ⟨ra0, rb0, ys0, r1, HS, HI, HY0⟩ : ∃ (ra0 rb0 : Int) (ys0 : List Int) (r1 : Bool), Hid (∀ (W : World) (A0' : Option Addr) (n0' c0' : Nat), n0' ≤ 1048576 → n0' ≤ c0' → RI W W.heap.size A0' n0' xs0 → Calls Try.prog 29 #[.agg #[.int .i64 a0, .int .i64 b0, .slice A0' n0' c0'], .int .i64 a1] W (RetTB W ra0 rb0 ys0 r1)) ∧ Hid (∀ (W : World) (A0' : Option Addr) (n0' c0' : Nat), n0' ≤ 1048576 → n0' ≤ c0' → RI W W.heap.size A0' n0' xs0 → Calls Try.prog 30 #[.agg #[.int .i64 a0, .int .i64 b0, .slice A0' n0' c0'], .int .i64 a1] W (RetTB W ra0 rb0 ys0 r1)) ∧ Hid (ys0.length ≤ 2097152) :=
    ⟨_, _, _, _, fun W A0' n0' c0' h0' q0' g0' => specSub_any a0 b0 A0' n0' c0' xs0 a1 W g0' h0', fun W A0' n0' c0' h0' q0' g0' => implSub_any a0 b0 A0' n0' c0' xs0 a1 W g0' h0', by unfold Hid; exact sub_len _ _ _ _ (by have := hr0.len; omega)⟩
  have HR0 := hide hr0
  have HL0 := hide hr0.len
  clear hr0 hbig0
  have HB0 := hide (Below.refl w.heap.size w)
  go_enter Try.func9, Try.ntmps9
  go_wp2_with fail
  refine (unhide HZ0 _).mono ?_
  rintro e w1 ⟨rfl, hb1⟩
  have hq1 : Below w.heap.size w w1 := (((Below.refl _ w)).alloc (by simp <;> omega) _).trans (hb1.mono (by simp <;> omega))
  have z1 : w.heap.size + 1 ≤ w1.heap.size := by have := hb1.size; (try simp at this); omega
  have HB1 := hide ((unhide HB0).trans (hq1.mono (unhide HB0).size))
  have ma0_0_1 : w1.cell? ⟨w.heap.size, 0, none⟩ = some (.int .i64 a0) := (hb1.cell (p := ⟨w.heap.size, 0, none⟩) (by simp <;> omega)).trans (by simp)
  have ma0_1_1 : w1.cell? ⟨w.heap.size, 1, none⟩ = some (.int .i64 b0) := (hb1.cell (p := ⟨w.heap.size, 1, none⟩) (by simp <;> omega)).trans (by simp)
  have ma0_2_1 : w1.cell? ⟨w.heap.size, 2, none⟩ = some (.slice A0 n0 c0) := (hb1.cell (p := ⟨w.heap.size, 2, none⟩) (by simp <;> omega)).trans (by simp)
  have la0_1 : w.heap.size < w1.heap.size := by omega
  clear hb1 hq1 HB0
  go_wp2_with fail
  refine (toTrace_any a0 b0 A0 n0 c0 xs0 _ (((unhide HR0).below (unhide HB1)).more (unhide HB1).size) hle0).mono ?_
  rintro e w2 ⟨A_p0, n_p0, c_p0, rfl, hO2, hb2⟩
  have hn_p0 : n_p0 ≤ 1048576 := by have := hO2.len; have := unhide HL0; omega
  have hP2 : OwnI w2 (w1.heap.size + 0) A_p0 n_p0 c_p0 xs0 := hO2.less (by simp)
  clear hO2
  have hq2 := hb2
  have z2 : w1.heap.size + 0 ≤ w2.heap.size := by have := hb2.size; (try simp at this); omega
  have HB2 := hide ((unhide HB1).trans (hq2.mono (unhide HB1).size))
  have ma0_0_2 : w2.cell? ⟨w.heap.size, 0, none⟩ = some (.int .i64 a0) := (hq2.cell (p := ⟨w.heap.size, 0, none⟩) la0_1).trans ma0_0_1
  have ma0_1_2 : w2.cell? ⟨w.heap.size, 1, none⟩ = some (.int .i64 b0) := (hq2.cell (p := ⟨w.heap.size, 1, none⟩) la0_1).trans ma0_1_1
  have ma0_2_2 : w2.cell? ⟨w.heap.size, 2, none⟩ = some (.slice A0 n0 c0) := (hq2.cell (p := ⟨w.heap.size, 2, none⟩) la0_1).trans ma0_2_1
  have la0_2 : w.heap.size < w2.heap.size := Nat.lt_of_lt_of_le la0_1 hq2.size
  clear ma0_0_1 ma0_1_1 ma0_2_1 la0_1 
  clear hb2 hq2 HB1
  have Op0_2 := hide (ownR_of (hP2))
  clear hP2
  go_wp2_with fail
  refine (unhide HS _ A_p0 n_p0 c_p0 hn_p0 (ownR_cap (unhide Op0_2)) ((unhide Op0_2).ri)).mono ?_
  rintro e w3 ⟨A_w0, n_w0, c_w0, rfl, hO3_0, hb3⟩
  have hn_w0 : n_w0 ≤ 2097152 := by have := hO3_0.len; have := unhide HY0; omega
  have hP3_0 : OwnI w3 (w2.heap.size + 0) A_w0 n_w0 c_w0 ys0 := hO3_0.less (by simp)
  clear hO3_0
  have hq3 := hb3
  have z3 : w2.heap.size + 0 ≤ w3.heap.size := by have := hb3.size; (try simp at this); omega
  have HB3 := hide ((unhide HB2).trans (hq3.mono (unhide HB2).size))
  have Op0_3 := hide ((unhide Op0_2).below hq3 (Nat.le_refl _))
  clear Op0_2
  have ma0_0_3 : w3.cell? ⟨w.heap.size, 0, none⟩ = some (.int .i64 a0) := (hq3.cell (p := ⟨w.heap.size, 0, none⟩) la0_2).trans ma0_0_2
  have ma0_1_3 : w3.cell? ⟨w.heap.size, 1, none⟩ = some (.int .i64 b0) := (hq3.cell (p := ⟨w.heap.size, 1, none⟩) la0_2).trans ma0_1_2
  have ma0_2_3 : w3.cell? ⟨w.heap.size, 2, none⟩ = some (.slice A0 n0 c0) := (hq3.cell (p := ⟨w.heap.size, 2, none⟩) la0_2).trans ma0_2_2
  have la0_3 : w.heap.size < w3.heap.size := Nat.lt_of_lt_of_le la0_2 hq3.size
  clear ma0_0_2 ma0_1_2 ma0_2_2 la0_2 
  clear hb3 hq3 HB2
  have Ow0_3 := hide (ownR_of (hP3_0))
  clear hP3_0
  clear Op0_3
  have qa0_0_3 : ∀ o : Obj, (w3.alloc o).cell? ⟨w.heap.size, 0, none⟩ = some (.int .i64 a0) := fun o => (World.cell?_alloc_lt w3 o ⟨w.heap.size, 0, none⟩ la0_3).trans ma0_0_3
  have qa0_1_3 : ∀ o : Obj, (w3.alloc o).cell? ⟨w.heap.size, 1, none⟩ = some (.int .i64 b0) := fun o => (World.cell?_alloc_lt w3 o ⟨w.heap.size, 1, none⟩ la0_3).trans ma0_1_3
  have qa0_2_3 : ∀ o : Obj, (w3.alloc o).cell? ⟨w.heap.size, 2, none⟩ = some (.slice A0 n0 c0) := fun o => (World.cell?_alloc_lt w3 o ⟨w.heap.size, 2, none⟩ la0_3).trans ma0_2_3
  go_wp2_with fail
  refine (toTrace_any a0 b0 A0 n0 c0 xs0 _ (((((unhide HR0).below (unhide HB3)).more (unhide HB3).size).alloc (Nat.le_refl _) _).more (by simp)) hle0).mono ?_
  rintro e w4 ⟨A_x0, n_x0, c_x0, rfl, hO4, hb4⟩
  have hn_x0 : n_x0 ≤ 1048576 := by have := hO4.len; have := unhide HL0; omega
  have hP4 : OwnI w4 (w3.heap.size + 1) A_x0 n_x0 c_x0 xs0 := hO4.less (by simp)
  clear hO4
  have hq4 : Below w3.heap.size w3 w4 := (((Below.refl _ w3)).alloc (by simp <;> omega) _).trans (hb4.mono (by simp <;> omega))
  have z4 : w3.heap.size + 1 ≤ w4.heap.size := by have := hb4.size; (try simp at this); omega
  have HB4 := hide ((unhide HB3).trans (hq4.mono (unhide HB3).size))
  have Ow0_4 := hide ((unhide Ow0_3).below hq4 (Nat.le_refl _))
  clear Ow0_3
  have ma0_0_4 : w4.cell? ⟨w.heap.size, 0, none⟩ = some (.int .i64 a0) := (hq4.cell (p := ⟨w.heap.size, 0, none⟩) la0_3).trans ma0_0_3
  have ma0_1_4 : w4.cell? ⟨w.heap.size, 1, none⟩ = some (.int .i64 b0) := (hq4.cell (p := ⟨w.heap.size, 1, none⟩) la0_3).trans ma0_1_3
  have ma0_2_4 : w4.cell? ⟨w.heap.size, 2, none⟩ = some (.slice A0 n0 c0) := (hq4.cell (p := ⟨w.heap.size, 2, none⟩) la0_3).trans ma0_2_3
  have la0_4 : w.heap.size < w4.heap.size := Nat.lt_of_lt_of_le la0_3 hq4.size
  clear ma0_0_3 ma0_1_3 ma0_2_3 la0_3 qa0_0_3 qa0_1_3 qa0_2_3
  have mw0_0_4 : w4.cell? ⟨w3.heap.size, 0, none⟩ = some (.int .i64 ra0) := (hb4.cell (p := ⟨w3.heap.size, 0, none⟩) (by simp <;> omega)).trans (by simp)
  have mw0_1_4 : w4.cell? ⟨w3.heap.size, 1, none⟩ = some (.int .i64 rb0) := (hb4.cell (p := ⟨w3.heap.size, 1, none⟩) (by simp <;> omega)).trans (by simp)
  have mw0_2_4 : w4.cell? ⟨w3.heap.size, 2, none⟩ = some (.slice A_w0 n_w0 c_w0) := (hb4.cell (p := ⟨w3.heap.size, 2, none⟩) (by simp <;> omega)).trans (by simp)
  have lw0_4 : w3.heap.size < w4.heap.size := by omega
  clear hb4 hq4 HB3
  have Ox0_4 := hide (ownR_of (hP4))
  clear hP4
  have qa0_0_4 : ∀ o : Obj, (w4.alloc o).cell? ⟨w.heap.size, 0, none⟩ = some (.int .i64 a0) := fun o => (World.cell?_alloc_lt w4 o ⟨w.heap.size, 0, none⟩ la0_4).trans ma0_0_4
  have qa0_1_4 : ∀ o : Obj, (w4.alloc o).cell? ⟨w.heap.size, 1, none⟩ = some (.int .i64 b0) := fun o => (World.cell?_alloc_lt w4 o ⟨w.heap.size, 1, none⟩ la0_4).trans ma0_1_4
  have qa0_2_4 : ∀ o : Obj, (w4.alloc o).cell? ⟨w.heap.size, 2, none⟩ = some (.slice A0 n0 c0) := fun o => (World.cell?_alloc_lt w4 o ⟨w.heap.size, 2, none⟩ la0_4).trans ma0_2_4
  have qw0_0_4 : ∀ o : Obj, (w4.alloc o).cell? ⟨w3.heap.size, 0, none⟩ = some (.int .i64 ra0) := fun o => (World.cell?_alloc_lt w4 o ⟨w3.heap.size, 0, none⟩ lw0_4).trans mw0_0_4
  have qw0_1_4 : ∀ o : Obj, (w4.alloc o).cell? ⟨w3.heap.size, 1, none⟩ = some (.int .i64 rb0) := fun o => (World.cell?_alloc_lt w4 o ⟨w3.heap.size, 1, none⟩ lw0_4).trans mw0_1_4
  have qw0_2_4 : ∀ o : Obj, (w4.alloc o).cell? ⟨w3.heap.size, 2, none⟩ = some (.slice A_w0 n_w0 c_w0) := fun o => (World.cell?_alloc_lt w4 o ⟨w3.heap.size, 2, none⟩ lw0_4).trans mw0_2_4
  go_wp2_with fail
  refine (unhide HI _ A_x0 n_x0 c_x0 hn_x0 (ownR_cap (unhide Ox0_4)) ((((unhide Ox0_4).ri).alloc (Nat.le_refl _) _).more (by simp))).mono ?_
  rintro e w5 ⟨A_g0, n_g0, c_g0, rfl, hO5_0, hb5⟩
  have hn_g0 : n_g0 ≤ 2097152 := by have := hO5_0.len; have := unhide HY0; omega
  have hP5_0 : OwnI w5 (w4.heap.size + 1) A_g0 n_g0 c_g0 ys0 := hO5_0.less (by simp)
  clear hO5_0
  have hq5 : Below w4.heap.size w4 w5 := (((Below.refl _ w4)).alloc (by simp <;> omega) _).trans (hb5.mono (by simp <;> omega))
  have z5 : w4.heap.size + 1 ≤ w5.heap.size := by have := hb5.size; (try simp at this); omega
  have HB5 := hide ((unhide HB4).trans (hq5.mono (unhide HB4).size))
  have Ow0_5 := hide ((unhide Ow0_4).below hq5 (Nat.le_refl _))
  clear Ow0_4
  have Ox0_5 := hide ((unhide Ox0_4).below hq5 (Nat.le_refl _))
  clear Ox0_4
  have ma0_0_5 : w5.cell? ⟨w.heap.size, 0, none⟩ = some (.int .i64 a0) := (hq5.cell (p := ⟨w.heap.size, 0, none⟩) la0_4).trans ma0_0_4
  have ma0_1_5 : w5.cell? ⟨w.heap.size, 1, none⟩ = some (.int .i64 b0) := (hq5.cell (p := ⟨w.heap.size, 1, none⟩) la0_4).trans ma0_1_4
  have ma0_2_5 : w5.cell? ⟨w.heap.size, 2, none⟩ = some (.slice A0 n0 c0) := (hq5.cell (p := ⟨w.heap.size, 2, none⟩) la0_4).trans ma0_2_4
  have la0_5 : w.heap.size < w5.heap.size := Nat.lt_of_lt_of_le la0_4 hq5.size
  clear ma0_0_4 ma0_1_4 ma0_2_4 la0_4 qa0_0_4 qa0_1_4 qa0_2_4
  have mw0_0_5 : w5.cell? ⟨w3.heap.size, 0, none⟩ = some (.int .i64 ra0) := (hq5.cell (p := ⟨w3.heap.size, 0, none⟩) lw0_4).trans mw0_0_4
  have mw0_1_5 : w5.cell? ⟨w3.heap.size, 1, none⟩ = some (.int .i64 rb0) := (hq5.cell (p := ⟨w3.heap.size, 1, none⟩) lw0_4).trans mw0_1_4
  have mw0_2_5 : w5.cell? ⟨w3.heap.size, 2, none⟩ = some (.slice A_w0 n_w0 c_w0) := (hq5.cell (p := ⟨w3.heap.size, 2, none⟩) lw0_4).trans mw0_2_4
  have lw0_5 : w3.heap.size < w5.heap.size := Nat.lt_of_lt_of_le lw0_4 hq5.size
  clear mw0_0_4 mw0_1_4 mw0_2_4 lw0_4 qw0_0_4 qw0_1_4 qw0_2_4
  have mx0_0_5 : w5.cell? ⟨w4.heap.size, 0, none⟩ = some (.int .i64 a0) := (hb5.cell (p := ⟨w4.heap.size, 0, none⟩) (by simp <;> omega)).trans (by simp)
  have mx0_1_5 : w5.cell? ⟨w4.heap.size, 1, none⟩ = some (.int .i64 b0) := (hb5.cell (p := ⟨w4.heap.size, 1, none⟩) (by simp <;> omega)).trans (by simp)
  have mx0_2_5 : w5.cell? ⟨w4.heap.size, 2, none⟩ = some (.slice A_x0 n_x0 c_x0) := (hb5.cell (p := ⟨w4.heap.size, 2, none⟩) (by simp <;> omega)).trans (by simp)
  have lx0_5 : w4.heap.size < w5.heap.size := by omega
  clear hb5 hq5 HB4
  have Og0_5 := hide (ownR_of (hP5_0))
  clear hP5_0
  have qa0_0_5 : ∀ o : Obj, (w5.alloc o).cell? ⟨w.heap.size, 0, none⟩ = some (.int .i64 a0) := fun o => (World.cell?_alloc_lt w5 o ⟨w.heap.size, 0, none⟩ la0_5).trans ma0_0_5
  have qa0_1_5 : ∀ o : Obj, (w5.alloc o).cell? ⟨w.heap.size, 1, none⟩ = some (.int .i64 b0) := fun o => (World.cell?_alloc_lt w5 o ⟨w.heap.size, 1, none⟩ la0_5).trans ma0_1_5
  have qa0_2_5 : ∀ o : Obj, (w5.alloc o).cell? ⟨w.heap.size, 2, none⟩ = some (.slice A0 n0 c0) := fun o => (World.cell?_alloc_lt w5 o ⟨w.heap.size, 2, none⟩ la0_5).trans ma0_2_5
  have qw0_0_5 : ∀ o : Obj, (w5.alloc o).cell? ⟨w3.heap.size, 0, none⟩ = some (.int .i64 ra0) := fun o => (World.cell?_alloc_lt w5 o ⟨w3.heap.size, 0, none⟩ lw0_5).trans mw0_0_5
  have qw0_1_5 : ∀ o : Obj, (w5.alloc o).cell? ⟨w3.heap.size, 1, none⟩ = some (.int .i64 rb0) := fun o => (World.cell?_alloc_lt w5 o ⟨w3.heap.size, 1, none⟩ lw0_5).trans mw0_1_5
  have qw0_2_5 : ∀ o : Obj, (w5.alloc o).cell? ⟨w3.heap.size, 2, none⟩ = some (.slice A_w0 n_w0 c_w0) := fun o => (World.cell?_alloc_lt w5 o ⟨w3.heap.size, 2, none⟩ lw0_5).trans mw0_2_5
  have qx0_0_5 : ∀ o : Obj, (w5.alloc o).cell? ⟨w4.heap.size, 0, none⟩ = some (.int .i64 a0) := fun o => (World.cell?_alloc_lt w5 o ⟨w4.heap.size, 0, none⟩ lx0_5).trans mx0_0_5
  have qx0_1_5 : ∀ o : Obj, (w5.alloc o).cell? ⟨w4.heap.size, 1, none⟩ = some (.int .i64 b0) := fun o => (World.cell?_alloc_lt w5 o ⟨w4.heap.size, 1, none⟩ lx0_5).trans mx0_1_5
  have qx0_2_5 : ∀ o : Obj, (w5.alloc o).cell? ⟨w4.heap.size, 2, none⟩ = some (.slice A_x0 n_x0 c_x0) := fun o => (World.cell?_alloc_lt w5 o ⟨w4.heap.size, 2, none⟩ lx0_5).trans mx0_2_5
  go_wp2_with fail
  refine (eqTrace_any ra0 rb0 ra0 rb0 A_g0 A_w0 n_g0 n_w0 c_g0 c_w0 ys0 ys0 _ ((((unhide Og0_5).ri).alloc (Nat.le_refl _) _).more (by simp)) ((((unhide Ow0_5).ri).alloc (Nat.le_refl _) _).more (by simp)) (unhide Og0_5).max (unhide Ow0_5).max).mono ?_
  rintro e w6 ⟨rfl, hb6⟩
  have hq6 : Below w5.heap.size w5 w6 := (((Below.refl _ w5)).alloc (by simp <;> omega) _).trans (hb6.mono (by simp <;> omega))
  have z6 : w5.heap.size + 1 ≤ w6.heap.size := by have := hb6.size; (try simp at this); omega
  have HB6 := hide ((unhide HB5).trans (hq6.mono (unhide HB5).size))
  have Ow0_6 := hide ((unhide Ow0_5).below hq6 (Nat.le_refl _))
  clear Ow0_5
  have Ox0_6 := hide ((unhide Ox0_5).below hq6 (Nat.le_refl _))
  clear Ox0_5
  have Og0_6 := hide ((unhide Og0_5).below hq6 (Nat.le_refl _))
  clear Og0_5
  have ma0_0_6 : w6.cell? ⟨w.heap.size, 0, none⟩ = some (.int .i64 a0) := (hq6.cell (p := ⟨w.heap.size, 0, none⟩) la0_5).trans ma0_0_5
  have ma0_1_6 : w6.cell? ⟨w.heap.size, 1, none⟩ = some (.int .i64 b0) := (hq6.cell (p := ⟨w.heap.size, 1, none⟩) la0_5).trans ma0_1_5
  have ma0_2_6 : w6.cell? ⟨w.heap.size, 2, none⟩ = some (.slice A0 n0 c0) := (hq6.cell (p := ⟨w.heap.size, 2, none⟩) la0_5).trans ma0_2_5
  have la0_6 : w.heap.size < w6.heap.size := Nat.lt_of_lt_of_le la0_5 hq6.size
  clear ma0_0_5 ma0_1_5 ma0_2_5 la0_5 qa0_0_5 qa0_1_5 qa0_2_5
  have mw0_0_6 : w6.cell? ⟨w3.heap.size, 0, none⟩ = some (.int .i64 ra0) := (hq6.cell (p := ⟨w3.heap.size, 0, none⟩) lw0_5).trans mw0_0_5
  have mw0_1_6 : w6.cell? ⟨w3.heap.size, 1, none⟩ = some (.int .i64 rb0) := (hq6.cell (p := ⟨w3.heap.size, 1, none⟩) lw0_5).trans mw0_1_5
  have mw0_2_6 : w6.cell? ⟨w3.heap.size, 2, none⟩ = some (.slice A_w0 n_w0 c_w0) := (hq6.cell (p := ⟨w3.heap.size, 2, none⟩) lw0_5).trans mw0_2_5
  have lw0_6 : w3.heap.size < w6.heap.size := Nat.lt_of_lt_of_le lw0_5 hq6.size
  clear mw0_0_5 mw0_1_5 mw0_2_5 lw0_5 qw0_0_5 qw0_1_5 qw0_2_5
  have mx0_0_6 : w6.cell? ⟨w4.heap.size, 0, none⟩ = some (.int .i64 a0) := (hq6.cell (p := ⟨w4.heap.size, 0, none⟩) lx0_5).trans mx0_0_5
  have mx0_1_6 : w6.cell? ⟨w4.heap.size, 1, none⟩ = some (.int .i64 b0) := (hq6.cell (p := ⟨w4.heap.size, 1, none⟩) lx0_5).trans mx0_1_5
  have mx0_2_6 : w6.cell? ⟨w4.heap.size, 2, none⟩ = some (.slice A_x0 n_x0 c_x0) := (hq6.cell (p := ⟨w4.heap.size, 2, none⟩) lx0_5).trans mx0_2_5
  have lx0_6 : w4.heap.size < w6.heap.size := Nat.lt_of_lt_of_le lx0_5 hq6.size
  clear mx0_0_5 mx0_1_5 mx0_2_5 lx0_5 qx0_0_5 qx0_1_5 qx0_2_5
  have mg0_0_6 : w6.cell? ⟨w5.heap.size, 0, none⟩ = some (.int .i64 ra0) := (hb6.cell (p := ⟨w5.heap.size, 0, none⟩) (by simp <;> omega)).trans (by simp)
  have mg0_1_6 : w6.cell? ⟨w5.heap.size, 1, none⟩ = some (.int .i64 rb0) := (hb6.cell (p := ⟨w5.heap.size, 1, none⟩) (by simp <;> omega)).trans (by simp)
  have mg0_2_6 : w6.cell? ⟨w5.heap.size, 2, none⟩ = some (.slice A_g0 n_g0 c_g0) := (hb6.cell (p := ⟨w5.heap.size, 2, none⟩) (by simp <;> omega)).trans (by simp)
  have lg0_6 : w5.heap.size < w6.heap.size := by omega
  clear hb6 hq6 HB5
  go_wp2_with fail
  go_region_held3 (fun w' => w'.cell? ⟨w4.heap.size, 0, none⟩ = some (.int .i64 a0) ∧ w'.cell? ⟨w4.heap.size, 1, none⟩ = some (.int .i64 b0) ∧ w'.cell? ⟨w4.heap.size, 2, none⟩ = some (.slice A_x0 n_x0 c_x0) ∧ w'.cell? ⟨w.heap.size, 0, none⟩ = some (.int .i64 a0) ∧ w'.cell? ⟨w.heap.size, 1, none⟩ = some (.int .i64 b0) ∧ w'.cell? ⟨w.heap.size, 2, none⟩ = some (.slice A0 n0 c0))
    (first | go_keep | exact ⟨(hby.cell (p := ⟨w4.heap.size, 0, none⟩) lx0_6).trans mx0_0_6, (hby.cell (p := ⟨w4.heap.size, 1, none⟩) lx0_6).trans mx0_1_6, (hby.cell (p := ⟨w4.heap.size, 2, none⟩) lx0_6).trans mx0_2_6, (hby.cell (p := ⟨w.heap.size, 0, none⟩) la0_6).trans ma0_0_6, (hby.cell (p := ⟨w.heap.size, 1, none⟩) la0_6).trans ma0_1_6, (hby.cell (p := ⟨w.heap.size, 2, none⟩) la0_6).trans ma0_2_6⟩ | exact ⟨(hbz.cell (p := ⟨w4.heap.size, 0, none⟩) (Nat.lt_of_lt_of_le lx0_6 hby.size)).trans ((hby.cell (p := ⟨w4.heap.size, 0, none⟩) lx0_6).trans mx0_0_6), (hbz.cell (p := ⟨w4.heap.size, 1, none⟩) (Nat.lt_of_lt_of_le lx0_6 hby.size)).trans ((hby.cell (p := ⟨w4.heap.size, 1, none⟩) lx0_6).trans mx0_1_6), (hbz.cell (p := ⟨w4.heap.size, 2, none⟩) (Nat.lt_of_lt_of_le lx0_6 hby.size)).trans ((hby.cell (p := ⟨w4.heap.size, 2, none⟩) lx0_6).trans mx0_2_6), (hbz.cell (p := ⟨w.heap.size, 0, none⟩) (Nat.lt_of_lt_of_le la0_6 hby.size)).trans ((hby.cell (p := ⟨w.heap.size, 0, none⟩) la0_6).trans ma0_0_6), (hbz.cell (p := ⟨w.heap.size, 1, none⟩) (Nat.lt_of_lt_of_le la0_6 hby.size)).trans ((hby.cell (p := ⟨w.heap.size, 1, none⟩) la0_6).trans ma0_1_6), (hbz.cell (p := ⟨w.heap.size, 2, none⟩) (Nat.lt_of_lt_of_le la0_6 hby.size)).trans ((hby.cell (p := ⟨w.heap.size, 2, none⟩) la0_6).trans ma0_2_6)⟩)
    (first
      | (go_at_call 14; refine (toTrace_any a0 b0 A0 n0 c0 xs0 _ (by exact ((unhide HR0).below (unhide HB6)).more (unhide HB6).size) hle0).mono ?_; rintro e wy ⟨A_y, n_y, c_y, rfl, hOy, hby⟩)
      | (go_at_call 16; refine (eqTrace_any a0 b0 a0 b0 A_x0 A_y n_x0 n_y c_x0 c_y xs0 xs0 _ (by exact (((unhide Ox0_6).ri).below ((Below.refl _ w6).drew.trans hby)).more hby.size) (by exact hOy.ri) (unhide Ox0_6).max hOy.max).mono ?_; rintro e w7 ⟨rfl, hbz⟩))
  clear hOy
  have hq7 : Below w6.heap.size w6 w7 := ((Below.refl _ w6).drew.trans hby).trans (hbz.mono hby.size)
  have z7 : w6.heap.size + 0 ≤ w7.heap.size := by have := hq7.size; (try simp at this); omega
  have HB7 := hide ((unhide HB6).trans (hq7.mono (unhide HB6).size))
  have Ow0_7 := hide ((unhide Ow0_6).below hq7 (Nat.le_refl _))
  clear Ow0_6
  have Ox0_7 := hide ((unhide Ox0_6).below hq7 (Nat.le_refl _))
  clear Ox0_6
  have Og0_7 := hide ((unhide Og0_6).below hq7 (Nat.le_refl _))
  clear Og0_6
  have ma0_0_7 : w7.cell? ⟨w.heap.size, 0, none⟩ = some (.int .i64 a0) := (hq7.cell (p := ⟨w.heap.size, 0, none⟩) la0_6).trans ma0_0_6
  have ma0_1_7 : w7.cell? ⟨w.heap.size, 1, none⟩ = some (.int .i64 b0) := (hq7.cell (p := ⟨w.heap.size, 1, none⟩) la0_6).trans ma0_1_6
  have ma0_2_7 : w7.cell? ⟨w.heap.size, 2, none⟩ = some (.slice A0 n0 c0) := (hq7.cell (p := ⟨w.heap.size, 2, none⟩) la0_6).trans ma0_2_6
  have la0_7 : w.heap.size < w7.heap.size := Nat.lt_of_lt_of_le la0_6 hq7.size
  clear ma0_0_6 ma0_1_6 ma0_2_6 la0_6 
  have mw0_0_7 : w7.cell? ⟨w3.heap.size, 0, none⟩ = some (.int .i64 ra0) := (hq7.cell (p := ⟨w3.heap.size, 0, none⟩) lw0_6).trans mw0_0_6
  have mw0_1_7 : w7.cell? ⟨w3.heap.size, 1, none⟩ = some (.int .i64 rb0) := (hq7.cell (p := ⟨w3.heap.size, 1, none⟩) lw0_6).trans mw0_1_6
  have mw0_2_7 : w7.cell? ⟨w3.heap.size, 2, none⟩ = some (.slice A_w0 n_w0 c_w0) := (hq7.cell (p := ⟨w3.heap.size, 2, none⟩) lw0_6).trans mw0_2_6
  have lw0_7 : w3.heap.size < w7.heap.size := Nat.lt_of_lt_of_le lw0_6 hq7.size
  clear mw0_0_6 mw0_1_6 mw0_2_6 lw0_6 
  have mx0_0_7 : w7.cell? ⟨w4.heap.size, 0, none⟩ = some (.int .i64 a0) := (hq7.cell (p := ⟨w4.heap.size, 0, none⟩) lx0_6).trans mx0_0_6
  have mx0_1_7 : w7.cell? ⟨w4.heap.size, 1, none⟩ = some (.int .i64 b0) := (hq7.cell (p := ⟨w4.heap.size, 1, none⟩) lx0_6).trans mx0_1_6
  have mx0_2_7 : w7.cell? ⟨w4.heap.size, 2, none⟩ = some (.slice A_x0 n_x0 c_x0) := (hq7.cell (p := ⟨w4.heap.size, 2, none⟩) lx0_6).trans mx0_2_6
  have lx0_7 : w4.heap.size < w7.heap.size := Nat.lt_of_lt_of_le lx0_6 hq7.size
  clear mx0_0_6 mx0_1_6 mx0_2_6 lx0_6 
  have mg0_0_7 : w7.cell? ⟨w5.heap.size, 0, none⟩ = some (.int .i64 ra0) := (hq7.cell (p := ⟨w5.heap.size, 0, none⟩) lg0_6).trans mg0_0_6
  have mg0_1_7 : w7.cell? ⟨w5.heap.size, 1, none⟩ = some (.int .i64 rb0) := (hq7.cell (p := ⟨w5.heap.size, 1, none⟩) lg0_6).trans mg0_1_6
  have mg0_2_7 : w7.cell? ⟨w5.heap.size, 2, none⟩ = some (.slice A_g0 n_g0 c_g0) := (hq7.cell (p := ⟨w5.heap.size, 2, none⟩) lg0_6).trans mg0_2_6
  have lg0_7 : w5.heap.size < w7.heap.size := Nat.lt_of_lt_of_le lg0_6 hq7.size
  clear mg0_0_6 mg0_1_6 mg0_2_6 lg0_6 
  clear hby hbz hq7 HB6
  go_wp2_with fail
  refine (markTrace_any a0 b0 A_x0 n_x0 c_x0 _ xs0 _ _ (unhide Ox0_7).1 (by omega) (by omega) (by omega)).mono ?_
  rintro e w8 ⟨rfl, hO8, hg8⟩
  have z8 : w7.heap.size + 0 ≤ w8.heap.size := hg8.size
  have HB8 := hide ((unhide Ox0_7).grown (unhide HB7) (by omega) (unhide HB7).size hg8)
  have Ow0_8 := hide ((unhide Ow0_7).kept hg8 (unhide Ox0_7) (by omega))
  clear Ow0_7
  have Og0_8 := hide ((unhide Og0_7).kept hg8 (unhide Ox0_7) (by omega))
  clear Og0_7
  have nea0_8 : some (w.heap.size) ≠ (Value.slice A_x0 n_x0 c_x0).ownBlock := fun e => by have h1 := World.ownsRow.lt (unhide Ox0_7).1 _ e.symm; have h2 := (unhide Ox0_7).2 _ e.symm; omega
  have ma0_0_8 : w8.cell? ⟨w.heap.size, 0, none⟩ = some (.int .i64 a0) := (World.cell?_of_block (a := ⟨w.heap.size, 0, none⟩) (hg8.block _ la0_7 nea0_8)).trans ma0_0_7
  have ma0_1_8 : w8.cell? ⟨w.heap.size, 1, none⟩ = some (.int .i64 b0) := (World.cell?_of_block (a := ⟨w.heap.size, 1, none⟩) (hg8.block _ la0_7 nea0_8)).trans ma0_1_7
  have ma0_2_8 : w8.cell? ⟨w.heap.size, 2, none⟩ = some (.slice A0 n0 c0) := (World.cell?_of_block (a := ⟨w.heap.size, 2, none⟩) (hg8.block _ la0_7 nea0_8)).trans ma0_2_7
  have la0_8 : w.heap.size < w8.heap.size := Nat.lt_of_lt_of_le la0_7 hg8.size
  clear ma0_0_7 ma0_1_7 ma0_2_7 la0_7 nea0_8 
  have new0_8 : some (w3.heap.size) ≠ (Value.slice A_x0 n_x0 c_x0).ownBlock := fun e => by have h1 := World.ownsRow.lt (unhide Ox0_7).1 _ e.symm; have h2 := (unhide Ox0_7).2 _ e.symm; omega
  have mw0_0_8 : w8.cell? ⟨w3.heap.size, 0, none⟩ = some (.int .i64 ra0) := (World.cell?_of_block (a := ⟨w3.heap.size, 0, none⟩) (hg8.block _ lw0_7 new0_8)).trans mw0_0_7
  have mw0_1_8 : w8.cell? ⟨w3.heap.size, 1, none⟩ = some (.int .i64 rb0) := (World.cell?_of_block (a := ⟨w3.heap.size, 1, none⟩) (hg8.block _ lw0_7 new0_8)).trans mw0_1_7
  have mw0_2_8 : w8.cell? ⟨w3.heap.size, 2, none⟩ = some (.slice A_w0 n_w0 c_w0) := (World.cell?_of_block (a := ⟨w3.heap.size, 2, none⟩) (hg8.block _ lw0_7 new0_8)).trans mw0_2_7
  have lw0_8 : w3.heap.size < w8.heap.size := Nat.lt_of_lt_of_le lw0_7 hg8.size
  clear mw0_0_7 mw0_1_7 mw0_2_7 lw0_7 new0_8 
  have nex0_8 : some (w4.heap.size) ≠ (Value.slice A_x0 n_x0 c_x0).ownBlock := fun e => by have h1 := World.ownsRow.lt (unhide Ox0_7).1 _ e.symm; have h2 := (unhide Ox0_7).2 _ e.symm; omega
  have mx0_0_8 : w8.cell? ⟨w4.heap.size, 0, none⟩ = some (.int .i64 a0) := (World.cell?_of_block (a := ⟨w4.heap.size, 0, none⟩) (hg8.block _ lx0_7 nex0_8)).trans mx0_0_7
  have mx0_1_8 : w8.cell? ⟨w4.heap.size, 1, none⟩ = some (.int .i64 b0) := (World.cell?_of_block (a := ⟨w4.heap.size, 1, none⟩) (hg8.block _ lx0_7 nex0_8)).trans mx0_1_7
  have mx0_2_8 : w8.cell? ⟨w4.heap.size, 2, none⟩ = some (.slice A_x0 n_x0 c_x0) := (World.cell?_of_block (a := ⟨w4.heap.size, 2, none⟩) (hg8.block _ lx0_7 nex0_8)).trans mx0_2_7
  have lx0_8 : w4.heap.size < w8.heap.size := Nat.lt_of_lt_of_le lx0_7 hg8.size
  clear mx0_0_7 mx0_1_7 mx0_2_7 lx0_7 nex0_8 
  have neg0_8 : some (w5.heap.size) ≠ (Value.slice A_x0 n_x0 c_x0).ownBlock := fun e => by have h1 := World.ownsRow.lt (unhide Ox0_7).1 _ e.symm; have h2 := (unhide Ox0_7).2 _ e.symm; omega
  have mg0_0_8 : w8.cell? ⟨w5.heap.size, 0, none⟩ = some (.int .i64 ra0) := (World.cell?_of_block (a := ⟨w5.heap.size, 0, none⟩) (hg8.block _ lg0_7 neg0_8)).trans mg0_0_7
  have mg0_1_8 : w8.cell? ⟨w5.heap.size, 1, none⟩ = some (.int .i64 rb0) := (World.cell?_of_block (a := ⟨w5.heap.size, 1, none⟩) (hg8.block _ lg0_7 neg0_8)).trans mg0_1_7
  have mg0_2_8 : w8.cell? ⟨w5.heap.size, 2, none⟩ = some (.slice A_g0 n_g0 c_g0) := (World.cell?_of_block (a := ⟨w5.heap.size, 2, none⟩) (hg8.block _ lg0_7 neg0_8)).trans mg0_2_7
  have lg0_8 : w5.heap.size < w8.heap.size := Nat.lt_of_lt_of_le lg0_7 hg8.size
  clear mg0_0_7 mg0_1_7 mg0_2_7 lg0_7 neg0_8 
  have Ox0_8 : Hid (OwnR _ _ _ _ _ _ _ _ _) := ⟨hO8, (unhide Ox0_7).2⟩
  clear Ox0_7 hO8 hg8 HB7
  go_wp2_with fail
  refine (eqTrace_any ra0 rb0 ra0 rb0 A_g0 A_w0 n_g0 n_w0 c_g0 c_w0 ys0 ys0 _ ((unhide Og0_8).ri) ((unhide Ow0_8).ri) (unhide Og0_8).max (unhide Ow0_8).max).mono ?_
  rintro e w9 ⟨rfl, hb9⟩
  have hq9 := hb9
  have z9 : w8.heap.size + 0 ≤ w9.heap.size := by have := hb9.size; (try simp at this); omega
  have HB9 := hide ((unhide HB8).trans (hq9.mono (unhide HB8).size))
  have Ow0_9 := hide ((unhide Ow0_8).below hq9 (Nat.le_refl _))
  clear Ow0_8
  have Ox0_9 := hide ((unhide Ox0_8).below hq9 (Nat.le_refl _))
  clear Ox0_8
  have Og0_9 := hide ((unhide Og0_8).below hq9 (Nat.le_refl _))
  clear Og0_8
  have ma0_0_9 : w9.cell? ⟨w.heap.size, 0, none⟩ = some (.int .i64 a0) := (hq9.cell (p := ⟨w.heap.size, 0, none⟩) la0_8).trans ma0_0_8
  have ma0_1_9 : w9.cell? ⟨w.heap.size, 1, none⟩ = some (.int .i64 b0) := (hq9.cell (p := ⟨w.heap.size, 1, none⟩) la0_8).trans ma0_1_8
  have ma0_2_9 : w9.cell? ⟨w.heap.size, 2, none⟩ = some (.slice A0 n0 c0) := (hq9.cell (p := ⟨w.heap.size, 2, none⟩) la0_8).trans ma0_2_8
  have la0_9 : w.heap.size < w9.heap.size := Nat.lt_of_lt_of_le la0_8 hq9.size
  clear ma0_0_8 ma0_1_8 ma0_2_8 la0_8 
  have mw0_0_9 : w9.cell? ⟨w3.heap.size, 0, none⟩ = some (.int .i64 ra0) := (hq9.cell (p := ⟨w3.heap.size, 0, none⟩) lw0_8).trans mw0_0_8
  have mw0_1_9 : w9.cell? ⟨w3.heap.size, 1, none⟩ = some (.int .i64 rb0) := (hq9.cell (p := ⟨w3.heap.size, 1, none⟩) lw0_8).trans mw0_1_8
  have mw0_2_9 : w9.cell? ⟨w3.heap.size, 2, none⟩ = some (.slice A_w0 n_w0 c_w0) := (hq9.cell (p := ⟨w3.heap.size, 2, none⟩) lw0_8).trans mw0_2_8
  have lw0_9 : w3.heap.size < w9.heap.size := Nat.lt_of_lt_of_le lw0_8 hq9.size
  clear mw0_0_8 mw0_1_8 mw0_2_8 lw0_8 
  have mx0_0_9 : w9.cell? ⟨w4.heap.size, 0, none⟩ = some (.int .i64 a0) := (hq9.cell (p := ⟨w4.heap.size, 0, none⟩) lx0_8).trans mx0_0_8
  have mx0_1_9 : w9.cell? ⟨w4.heap.size, 1, none⟩ = some (.int .i64 b0) := (hq9.cell (p := ⟨w4.heap.size, 1, none⟩) lx0_8).trans mx0_1_8
  have mx0_2_9 : w9.cell? ⟨w4.heap.size, 2, none⟩ = some (.slice A_x0 n_x0 c_x0) := (hq9.cell (p := ⟨w4.heap.size, 2, none⟩) lx0_8).trans mx0_2_8
  have lx0_9 : w4.heap.size < w9.heap.size := Nat.lt_of_lt_of_le lx0_8 hq9.size
  clear mx0_0_8 mx0_1_8 mx0_2_8 lx0_8 
  have mg0_0_9 : w9.cell? ⟨w5.heap.size, 0, none⟩ = some (.int .i64 ra0) := (hq9.cell (p := ⟨w5.heap.size, 0, none⟩) lg0_8).trans mg0_0_8
  have mg0_1_9 : w9.cell? ⟨w5.heap.size, 1, none⟩ = some (.int .i64 rb0) := (hq9.cell (p := ⟨w5.heap.size, 1, none⟩) lg0_8).trans mg0_1_8
  have mg0_2_9 : w9.cell? ⟨w5.heap.size, 2, none⟩ = some (.slice A_g0 n_g0 c_g0) := (hq9.cell (p := ⟨w5.heap.size, 2, none⟩) lg0_8).trans mg0_2_8
  have lg0_9 : w5.heap.size < w9.heap.size := Nat.lt_of_lt_of_le lg0_8 hq9.size
  clear mg0_0_8 mg0_1_8 mg0_2_8 lg0_8 
  clear hb9 hq9 HB8
  go_wp2_with fail
  refine (markTrace_any ra0 rb0 A_g0 n_g0 c_g0 _ ys0 _ _ (unhide Og0_9).1 (by omega) (by omega) (by omega)).mono ?_
  rintro e w10 ⟨rfl, hO10, hg10⟩
  have z10 : w9.heap.size + 0 ≤ w10.heap.size := hg10.size
  have HB10 := hide ((unhide Og0_9).grown (unhide HB9) (by omega) (unhide HB9).size hg10)
  have Ow0_10 := hide ((unhide Ow0_9).kept hg10 (unhide Og0_9) (by omega))
  clear Ow0_9
  have Ox0_10 := hide ((unhide Ox0_9).kept hg10 (unhide Og0_9) (by omega))
  clear Ox0_9
  have nea0_10 : some (w.heap.size) ≠ (Value.slice A_g0 n_g0 c_g0).ownBlock := fun e => by have h1 := World.ownsRow.lt (unhide Og0_9).1 _ e.symm; have h2 := (unhide Og0_9).2 _ e.symm; omega
  have ma0_0_10 : w10.cell? ⟨w.heap.size, 0, none⟩ = some (.int .i64 a0) := (World.cell?_of_block (a := ⟨w.heap.size, 0, none⟩) (hg10.block _ la0_9 nea0_10)).trans ma0_0_9
  have ma0_1_10 : w10.cell? ⟨w.heap.size, 1, none⟩ = some (.int .i64 b0) := (World.cell?_of_block (a := ⟨w.heap.size, 1, none⟩) (hg10.block _ la0_9 nea0_10)).trans ma0_1_9
  have ma0_2_10 : w10.cell? ⟨w.heap.size, 2, none⟩ = some (.slice A0 n0 c0) := (World.cell?_of_block (a := ⟨w.heap.size, 2, none⟩) (hg10.block _ la0_9 nea0_10)).trans ma0_2_9
  have la0_10 : w.heap.size < w10.heap.size := Nat.lt_of_lt_of_le la0_9 hg10.size
  clear ma0_0_9 ma0_1_9 ma0_2_9 la0_9 nea0_10 
  have new0_10 : some (w3.heap.size) ≠ (Value.slice A_g0 n_g0 c_g0).ownBlock := fun e => by have h1 := World.ownsRow.lt (unhide Og0_9).1 _ e.symm; have h2 := (unhide Og0_9).2 _ e.symm; omega
  have mw0_0_10 : w10.cell? ⟨w3.heap.size, 0, none⟩ = some (.int .i64 ra0) := (World.cell?_of_block (a := ⟨w3.heap.size, 0, none⟩) (hg10.block _ lw0_9 new0_10)).trans mw0_0_9
  have mw0_1_10 : w10.cell? ⟨w3.heap.size, 1, none⟩ = some (.int .i64 rb0) := (World.cell?_of_block (a := ⟨w3.heap.size, 1, none⟩) (hg10.block _ lw0_9 new0_10)).trans mw0_1_9
  have mw0_2_10 : w10.cell? ⟨w3.heap.size, 2, none⟩ = some (.slice A_w0 n_w0 c_w0) := (World.cell?_of_block (a := ⟨w3.heap.size, 2, none⟩) (hg10.block _ lw0_9 new0_10)).trans mw0_2_9
  have lw0_10 : w3.heap.size < w10.heap.size := Nat.lt_of_lt_of_le lw0_9 hg10.size
  clear mw0_0_9 mw0_1_9 mw0_2_9 lw0_9 new0_10 
  have nex0_10 : some (w4.heap.size) ≠ (Value.slice A_g0 n_g0 c_g0).ownBlock := fun e => by have h1 := World.ownsRow.lt (unhide Og0_9).1 _ e.symm; have h2 := (unhide Og0_9).2 _ e.symm; omega
  have mx0_0_10 : w10.cell? ⟨w4.heap.size, 0, none⟩ = some (.int .i64 a0) := (World.cell?_of_block (a := ⟨w4.heap.size, 0, none⟩) (hg10.block _ lx0_9 nex0_10)).trans mx0_0_9
  have mx0_1_10 : w10.cell? ⟨w4.heap.size, 1, none⟩ = some (.int .i64 b0) := (World.cell?_of_block (a := ⟨w4.heap.size, 1, none⟩) (hg10.block _ lx0_9 nex0_10)).trans mx0_1_9
  have mx0_2_10 : w10.cell? ⟨w4.heap.size, 2, none⟩ = some (.slice A_x0 n_x0 c_x0) := (World.cell?_of_block (a := ⟨w4.heap.size, 2, none⟩) (hg10.block _ lx0_9 nex0_10)).trans mx0_2_9
  have lx0_10 : w4.heap.size < w10.heap.size := Nat.lt_of_lt_of_le lx0_9 hg10.size
  clear mx0_0_9 mx0_1_9 mx0_2_9 lx0_9 nex0_10 
  have neg0_10 : some (w5.heap.size) ≠ (Value.slice A_g0 n_g0 c_g0).ownBlock := fun e => by have h1 := World.ownsRow.lt (unhide Og0_9).1 _ e.symm; have h2 := (unhide Og0_9).2 _ e.symm; omega
  have mg0_0_10 : w10.cell? ⟨w5.heap.size, 0, none⟩ = some (.int .i64 ra0) := (World.cell?_of_block (a := ⟨w5.heap.size, 0, none⟩) (hg10.block _ lg0_9 neg0_10)).trans mg0_0_9
  have mg0_1_10 : w10.cell? ⟨w5.heap.size, 1, none⟩ = some (.int .i64 rb0) := (World.cell?_of_block (a := ⟨w5.heap.size, 1, none⟩) (hg10.block _ lg0_9 neg0_10)).trans mg0_1_9
  have mg0_2_10 : w10.cell? ⟨w5.heap.size, 2, none⟩ = some (.slice A_g0 n_g0 c_g0) := (World.cell?_of_block (a := ⟨w5.heap.size, 2, none⟩) (hg10.block _ lg0_9 neg0_10)).trans mg0_2_9
  have lg0_10 : w5.heap.size < w10.heap.size := Nat.lt_of_lt_of_le lg0_9 hg10.size
  clear mg0_0_9 mg0_1_9 mg0_2_9 lg0_9 neg0_10 
  have Og0_10 : Hid (OwnR _ _ _ _ _ _ _ _ _) := ⟨hO10, (unhide Og0_9).2⟩
  clear Og0_9 hO10 hg10 HB9
  go_wp2_with fail
  refine (heldTrace_any ra0 rb0 A_g0 n_g0 c_g0 _ _ ((unhide Og0_10).ri) (by omega) (by omega) (by omega)).mono ?_
  rintro e w11 ⟨rfl, hb11⟩
  have hq11 := hb11
  have z11 : w10.heap.size + 0 ≤ w11.heap.size := by have := hb11.size; (try simp at this); omega
  have HB11 := hide ((unhide HB10).trans (hq11.mono (unhide HB10).size))
  have Ow0_11 := hide ((unhide Ow0_10).below hq11 (Nat.le_refl _))
  clear Ow0_10
  have Ox0_11 := hide ((unhide Ox0_10).below hq11 (Nat.le_refl _))
  clear Ox0_10
  have Og0_11 := hide ((unhide Og0_10).below hq11 (Nat.le_refl _))
  clear Og0_10
  have ma0_0_11 : w11.cell? ⟨w.heap.size, 0, none⟩ = some (.int .i64 a0) := (hq11.cell (p := ⟨w.heap.size, 0, none⟩) la0_10).trans ma0_0_10
  have ma0_1_11 : w11.cell? ⟨w.heap.size, 1, none⟩ = some (.int .i64 b0) := (hq11.cell (p := ⟨w.heap.size, 1, none⟩) la0_10).trans ma0_1_10
  have ma0_2_11 : w11.cell? ⟨w.heap.size, 2, none⟩ = some (.slice A0 n0 c0) := (hq11.cell (p := ⟨w.heap.size, 2, none⟩) la0_10).trans ma0_2_10
  have la0_11 : w.heap.size < w11.heap.size := Nat.lt_of_lt_of_le la0_10 hq11.size
  clear ma0_0_10 ma0_1_10 ma0_2_10 la0_10 
  have mw0_0_11 : w11.cell? ⟨w3.heap.size, 0, none⟩ = some (.int .i64 ra0) := (hq11.cell (p := ⟨w3.heap.size, 0, none⟩) lw0_10).trans mw0_0_10
  have mw0_1_11 : w11.cell? ⟨w3.heap.size, 1, none⟩ = some (.int .i64 rb0) := (hq11.cell (p := ⟨w3.heap.size, 1, none⟩) lw0_10).trans mw0_1_10
  have mw0_2_11 : w11.cell? ⟨w3.heap.size, 2, none⟩ = some (.slice A_w0 n_w0 c_w0) := (hq11.cell (p := ⟨w3.heap.size, 2, none⟩) lw0_10).trans mw0_2_10
  have lw0_11 : w3.heap.size < w11.heap.size := Nat.lt_of_lt_of_le lw0_10 hq11.size
  clear mw0_0_10 mw0_1_10 mw0_2_10 lw0_10 
  have mx0_0_11 : w11.cell? ⟨w4.heap.size, 0, none⟩ = some (.int .i64 a0) := (hq11.cell (p := ⟨w4.heap.size, 0, none⟩) lx0_10).trans mx0_0_10
  have mx0_1_11 : w11.cell? ⟨w4.heap.size, 1, none⟩ = some (.int .i64 b0) := (hq11.cell (p := ⟨w4.heap.size, 1, none⟩) lx0_10).trans mx0_1_10
  have mx0_2_11 : w11.cell? ⟨w4.heap.size, 2, none⟩ = some (.slice A_x0 n_x0 c_x0) := (hq11.cell (p := ⟨w4.heap.size, 2, none⟩) lx0_10).trans mx0_2_10
  have lx0_11 : w4.heap.size < w11.heap.size := Nat.lt_of_lt_of_le lx0_10 hq11.size
  clear mx0_0_10 mx0_1_10 mx0_2_10 lx0_10 
  have mg0_0_11 : w11.cell? ⟨w5.heap.size, 0, none⟩ = some (.int .i64 ra0) := (hq11.cell (p := ⟨w5.heap.size, 0, none⟩) lg0_10).trans mg0_0_10
  have mg0_1_11 : w11.cell? ⟨w5.heap.size, 1, none⟩ = some (.int .i64 rb0) := (hq11.cell (p := ⟨w5.heap.size, 1, none⟩) lg0_10).trans mg0_1_10
  have mg0_2_11 : w11.cell? ⟨w5.heap.size, 2, none⟩ = some (.slice A_g0 n_g0 c_g0) := (hq11.cell (p := ⟨w5.heap.size, 2, none⟩) lg0_10).trans mg0_2_10
  have lg0_11 : w5.heap.size < w11.heap.size := Nat.lt_of_lt_of_le lg0_10 hq11.size
  clear mg0_0_10 mg0_1_10 mg0_2_10 lg0_10 
  clear hb11 hq11 HB10
  go_wp2_with fail
  refine (toTrace_any a0 b0 A0 n0 c0 xs0 _ (((unhide HR0).below (unhide HB11)).more (unhide HB11).size) hle0).mono ?_
  rintro e w12 ⟨A_q0, n_q0, c_q0, rfl, hO12, hb12⟩
  have hn_q0 : n_q0 ≤ 1048576 := by have := hO12.len; have := unhide HL0; omega
  have hP12 : OwnI w12 (w11.heap.size + 0) A_q0 n_q0 c_q0 xs0 := hO12.less (by simp)
  clear hO12
  have hq12 := hb12
  have z12 : w11.heap.size + 0 ≤ w12.heap.size := by have := hb12.size; (try simp at this); omega
  have HB12 := hide ((unhide HB11).trans (hq12.mono (unhide HB11).size))
  have Ow0_12 := hide ((unhide Ow0_11).below hq12 (Nat.le_refl _))
  clear Ow0_11
  have Ox0_12 := hide ((unhide Ox0_11).below hq12 (Nat.le_refl _))
  clear Ox0_11
  have Og0_12 := hide ((unhide Og0_11).below hq12 (Nat.le_refl _))
  clear Og0_11
  have ma0_0_12 : w12.cell? ⟨w.heap.size, 0, none⟩ = some (.int .i64 a0) := (hq12.cell (p := ⟨w.heap.size, 0, none⟩) la0_11).trans ma0_0_11
  have ma0_1_12 : w12.cell? ⟨w.heap.size, 1, none⟩ = some (.int .i64 b0) := (hq12.cell (p := ⟨w.heap.size, 1, none⟩) la0_11).trans ma0_1_11
  have ma0_2_12 : w12.cell? ⟨w.heap.size, 2, none⟩ = some (.slice A0 n0 c0) := (hq12.cell (p := ⟨w.heap.size, 2, none⟩) la0_11).trans ma0_2_11
  have la0_12 : w.heap.size < w12.heap.size := Nat.lt_of_lt_of_le la0_11 hq12.size
  clear ma0_0_11 ma0_1_11 ma0_2_11 la0_11 
  have mw0_0_12 : w12.cell? ⟨w3.heap.size, 0, none⟩ = some (.int .i64 ra0) := (hq12.cell (p := ⟨w3.heap.size, 0, none⟩) lw0_11).trans mw0_0_11
  have mw0_1_12 : w12.cell? ⟨w3.heap.size, 1, none⟩ = some (.int .i64 rb0) := (hq12.cell (p := ⟨w3.heap.size, 1, none⟩) lw0_11).trans mw0_1_11
  have mw0_2_12 : w12.cell? ⟨w3.heap.size, 2, none⟩ = some (.slice A_w0 n_w0 c_w0) := (hq12.cell (p := ⟨w3.heap.size, 2, none⟩) lw0_11).trans mw0_2_11
  have lw0_12 : w3.heap.size < w12.heap.size := Nat.lt_of_lt_of_le lw0_11 hq12.size
  clear mw0_0_11 mw0_1_11 mw0_2_11 lw0_11 
  have mx0_0_12 : w12.cell? ⟨w4.heap.size, 0, none⟩ = some (.int .i64 a0) := (hq12.cell (p := ⟨w4.heap.size, 0, none⟩) lx0_11).trans mx0_0_11
  have mx0_1_12 : w12.cell? ⟨w4.heap.size, 1, none⟩ = some (.int .i64 b0) := (hq12.cell (p := ⟨w4.heap.size, 1, none⟩) lx0_11).trans mx0_1_11
  have mx0_2_12 : w12.cell? ⟨w4.heap.size, 2, none⟩ = some (.slice A_x0 n_x0 c_x0) := (hq12.cell (p := ⟨w4.heap.size, 2, none⟩) lx0_11).trans mx0_2_11
  have lx0_12 : w4.heap.size < w12.heap.size := Nat.lt_of_lt_of_le lx0_11 hq12.size
  clear mx0_0_11 mx0_1_11 mx0_2_11 lx0_11 
  have mg0_0_12 : w12.cell? ⟨w5.heap.size, 0, none⟩ = some (.int .i64 ra0) := (hq12.cell (p := ⟨w5.heap.size, 0, none⟩) lg0_11).trans mg0_0_11
  have mg0_1_12 : w12.cell? ⟨w5.heap.size, 1, none⟩ = some (.int .i64 rb0) := (hq12.cell (p := ⟨w5.heap.size, 1, none⟩) lg0_11).trans mg0_1_11
  have mg0_2_12 : w12.cell? ⟨w5.heap.size, 2, none⟩ = some (.slice A_g0 n_g0 c_g0) := (hq12.cell (p := ⟨w5.heap.size, 2, none⟩) lg0_11).trans mg0_2_11
  have lg0_12 : w5.heap.size < w12.heap.size := Nat.lt_of_lt_of_le lg0_11 hq12.size
  clear mg0_0_11 mg0_1_11 mg0_2_11 lg0_11 
  clear hb12 hq12 HB11
  have Oq0_12 := hide (ownR_of (hP12))
  clear hP12
  go_wp2_with fail
  refine (unhide HI _ A_q0 n_q0 c_q0 hn_q0 (ownR_cap (unhide Oq0_12)) ((unhide Oq0_12).ri)).mono ?_
  rintro e w13 ⟨A_h0, n_h0, c_h0, rfl, hO13_0, hb13⟩
  have hn_h0 : n_h0 ≤ 2097152 := by have := hO13_0.len; have := unhide HY0; omega
  have hP13_0 : OwnI w13 (w12.heap.size + 0) A_h0 n_h0 c_h0 ys0 := hO13_0.less (by simp)
  clear hO13_0
  have hq13 := hb13
  have z13 : w12.heap.size + 0 ≤ w13.heap.size := by have := hb13.size; (try simp at this); omega
  have HB13 := hide ((unhide HB12).trans (hq13.mono (unhide HB12).size))
  have Ow0_13 := hide ((unhide Ow0_12).below hq13 (Nat.le_refl _))
  clear Ow0_12
  have Ox0_13 := hide ((unhide Ox0_12).below hq13 (Nat.le_refl _))
  clear Ox0_12
  have Og0_13 := hide ((unhide Og0_12).below hq13 (Nat.le_refl _))
  clear Og0_12
  have Oq0_13 := hide ((unhide Oq0_12).below hq13 (Nat.le_refl _))
  clear Oq0_12
  have ma0_0_13 : w13.cell? ⟨w.heap.size, 0, none⟩ = some (.int .i64 a0) := (hq13.cell (p := ⟨w.heap.size, 0, none⟩) la0_12).trans ma0_0_12
  have ma0_1_13 : w13.cell? ⟨w.heap.size, 1, none⟩ = some (.int .i64 b0) := (hq13.cell (p := ⟨w.heap.size, 1, none⟩) la0_12).trans ma0_1_12
  have ma0_2_13 : w13.cell? ⟨w.heap.size, 2, none⟩ = some (.slice A0 n0 c0) := (hq13.cell (p := ⟨w.heap.size, 2, none⟩) la0_12).trans ma0_2_12
  have la0_13 : w.heap.size < w13.heap.size := Nat.lt_of_lt_of_le la0_12 hq13.size
  clear ma0_0_12 ma0_1_12 ma0_2_12 la0_12 
  have mw0_0_13 : w13.cell? ⟨w3.heap.size, 0, none⟩ = some (.int .i64 ra0) := (hq13.cell (p := ⟨w3.heap.size, 0, none⟩) lw0_12).trans mw0_0_12
  have mw0_1_13 : w13.cell? ⟨w3.heap.size, 1, none⟩ = some (.int .i64 rb0) := (hq13.cell (p := ⟨w3.heap.size, 1, none⟩) lw0_12).trans mw0_1_12
  have mw0_2_13 : w13.cell? ⟨w3.heap.size, 2, none⟩ = some (.slice A_w0 n_w0 c_w0) := (hq13.cell (p := ⟨w3.heap.size, 2, none⟩) lw0_12).trans mw0_2_12
  have lw0_13 : w3.heap.size < w13.heap.size := Nat.lt_of_lt_of_le lw0_12 hq13.size
  clear mw0_0_12 mw0_1_12 mw0_2_12 lw0_12 
  have mx0_0_13 : w13.cell? ⟨w4.heap.size, 0, none⟩ = some (.int .i64 a0) := (hq13.cell (p := ⟨w4.heap.size, 0, none⟩) lx0_12).trans mx0_0_12
  have mx0_1_13 : w13.cell? ⟨w4.heap.size, 1, none⟩ = some (.int .i64 b0) := (hq13.cell (p := ⟨w4.heap.size, 1, none⟩) lx0_12).trans mx0_1_12
  have mx0_2_13 : w13.cell? ⟨w4.heap.size, 2, none⟩ = some (.slice A_x0 n_x0 c_x0) := (hq13.cell (p := ⟨w4.heap.size, 2, none⟩) lx0_12).trans mx0_2_12
  have lx0_13 : w4.heap.size < w13.heap.size := Nat.lt_of_lt_of_le lx0_12 hq13.size
  clear mx0_0_12 mx0_1_12 mx0_2_12 lx0_12 
  have mg0_0_13 : w13.cell? ⟨w5.heap.size, 0, none⟩ = some (.int .i64 ra0) := (hq13.cell (p := ⟨w5.heap.size, 0, none⟩) lg0_12).trans mg0_0_12
  have mg0_1_13 : w13.cell? ⟨w5.heap.size, 1, none⟩ = some (.int .i64 rb0) := (hq13.cell (p := ⟨w5.heap.size, 1, none⟩) lg0_12).trans mg0_1_12
  have mg0_2_13 : w13.cell? ⟨w5.heap.size, 2, none⟩ = some (.slice A_g0 n_g0 c_g0) := (hq13.cell (p := ⟨w5.heap.size, 2, none⟩) lg0_12).trans mg0_2_12
  have lg0_13 : w5.heap.size < w13.heap.size := Nat.lt_of_lt_of_le lg0_12 hq13.size
  clear mg0_0_12 mg0_1_12 mg0_2_12 lg0_12 
  clear hb13 hq13 HB12
  have Oh0_13 := hide (ownR_of (hP13_0))
  clear hP13_0
  clear Oq0_13
  have qa0_0_13 : ∀ o : Obj, (w13.alloc o).cell? ⟨w.heap.size, 0, none⟩ = some (.int .i64 a0) := fun o => (World.cell?_alloc_lt w13 o ⟨w.heap.size, 0, none⟩ la0_13).trans ma0_0_13
  have qa0_1_13 : ∀ o : Obj, (w13.alloc o).cell? ⟨w.heap.size, 1, none⟩ = some (.int .i64 b0) := fun o => (World.cell?_alloc_lt w13 o ⟨w.heap.size, 1, none⟩ la0_13).trans ma0_1_13
  have qa0_2_13 : ∀ o : Obj, (w13.alloc o).cell? ⟨w.heap.size, 2, none⟩ = some (.slice A0 n0 c0) := fun o => (World.cell?_alloc_lt w13 o ⟨w.heap.size, 2, none⟩ la0_13).trans ma0_2_13
  have qw0_0_13 : ∀ o : Obj, (w13.alloc o).cell? ⟨w3.heap.size, 0, none⟩ = some (.int .i64 ra0) := fun o => (World.cell?_alloc_lt w13 o ⟨w3.heap.size, 0, none⟩ lw0_13).trans mw0_0_13
  have qw0_1_13 : ∀ o : Obj, (w13.alloc o).cell? ⟨w3.heap.size, 1, none⟩ = some (.int .i64 rb0) := fun o => (World.cell?_alloc_lt w13 o ⟨w3.heap.size, 1, none⟩ lw0_13).trans mw0_1_13
  have qw0_2_13 : ∀ o : Obj, (w13.alloc o).cell? ⟨w3.heap.size, 2, none⟩ = some (.slice A_w0 n_w0 c_w0) := fun o => (World.cell?_alloc_lt w13 o ⟨w3.heap.size, 2, none⟩ lw0_13).trans mw0_2_13
  have qx0_0_13 : ∀ o : Obj, (w13.alloc o).cell? ⟨w4.heap.size, 0, none⟩ = some (.int .i64 a0) := fun o => (World.cell?_alloc_lt w13 o ⟨w4.heap.size, 0, none⟩ lx0_13).trans mx0_0_13
  have qx0_1_13 : ∀ o : Obj, (w13.alloc o).cell? ⟨w4.heap.size, 1, none⟩ = some (.int .i64 b0) := fun o => (World.cell?_alloc_lt w13 o ⟨w4.heap.size, 1, none⟩ lx0_13).trans mx0_1_13
  have qx0_2_13 : ∀ o : Obj, (w13.alloc o).cell? ⟨w4.heap.size, 2, none⟩ = some (.slice A_x0 n_x0 c_x0) := fun o => (World.cell?_alloc_lt w13 o ⟨w4.heap.size, 2, none⟩ lx0_13).trans mx0_2_13
  have qg0_0_13 : ∀ o : Obj, (w13.alloc o).cell? ⟨w5.heap.size, 0, none⟩ = some (.int .i64 ra0) := fun o => (World.cell?_alloc_lt w13 o ⟨w5.heap.size, 0, none⟩ lg0_13).trans mg0_0_13
  have qg0_1_13 : ∀ o : Obj, (w13.alloc o).cell? ⟨w5.heap.size, 1, none⟩ = some (.int .i64 rb0) := fun o => (World.cell?_alloc_lt w13 o ⟨w5.heap.size, 1, none⟩ lg0_13).trans mg0_1_13
  have qg0_2_13 : ∀ o : Obj, (w13.alloc o).cell? ⟨w5.heap.size, 2, none⟩ = some (.slice A_g0 n_g0 c_g0) := fun o => (World.cell?_alloc_lt w13 o ⟨w5.heap.size, 2, none⟩ lg0_13).trans mg0_2_13
  go_wp2_with fail
  refine (eqTrace_any ra0 rb0 ra0 rb0 A_h0 A_w0 n_h0 n_w0 c_h0 c_w0 ys0 ys0 _ ((((unhide Oh0_13).ri).alloc (Nat.le_refl _) _).more (by simp)) ((((unhide Ow0_13).ri).alloc (Nat.le_refl _) _).more (by simp)) (unhide Oh0_13).max (unhide Ow0_13).max).mono ?_
  rintro e w14 ⟨rfl, hb14⟩
  have hq14 : Below w13.heap.size w13 w14 := (((Below.refl _ w13)).alloc (by simp <;> omega) _).trans (hb14.mono (by simp <;> omega))
  have z14 : w13.heap.size + 1 ≤ w14.heap.size := by have := hb14.size; (try simp at this); omega
  have HB14 := hide ((unhide HB13).trans (hq14.mono (unhide HB13).size))
  have Ow0_14 := hide ((unhide Ow0_13).below hq14 (Nat.le_refl _))
  clear Ow0_13
  have Ox0_14 := hide ((unhide Ox0_13).below hq14 (Nat.le_refl _))
  clear Ox0_13
  have Og0_14 := hide ((unhide Og0_13).below hq14 (Nat.le_refl _))
  clear Og0_13
  have Oh0_14 := hide ((unhide Oh0_13).below hq14 (Nat.le_refl _))
  clear Oh0_13
  have ma0_0_14 : w14.cell? ⟨w.heap.size, 0, none⟩ = some (.int .i64 a0) := (hq14.cell (p := ⟨w.heap.size, 0, none⟩) la0_13).trans ma0_0_13
  have ma0_1_14 : w14.cell? ⟨w.heap.size, 1, none⟩ = some (.int .i64 b0) := (hq14.cell (p := ⟨w.heap.size, 1, none⟩) la0_13).trans ma0_1_13
  have ma0_2_14 : w14.cell? ⟨w.heap.size, 2, none⟩ = some (.slice A0 n0 c0) := (hq14.cell (p := ⟨w.heap.size, 2, none⟩) la0_13).trans ma0_2_13
  have la0_14 : w.heap.size < w14.heap.size := Nat.lt_of_lt_of_le la0_13 hq14.size
  clear ma0_0_13 ma0_1_13 ma0_2_13 la0_13 qa0_0_13 qa0_1_13 qa0_2_13
  have mw0_0_14 : w14.cell? ⟨w3.heap.size, 0, none⟩ = some (.int .i64 ra0) := (hq14.cell (p := ⟨w3.heap.size, 0, none⟩) lw0_13).trans mw0_0_13
  have mw0_1_14 : w14.cell? ⟨w3.heap.size, 1, none⟩ = some (.int .i64 rb0) := (hq14.cell (p := ⟨w3.heap.size, 1, none⟩) lw0_13).trans mw0_1_13
  have mw0_2_14 : w14.cell? ⟨w3.heap.size, 2, none⟩ = some (.slice A_w0 n_w0 c_w0) := (hq14.cell (p := ⟨w3.heap.size, 2, none⟩) lw0_13).trans mw0_2_13
  have lw0_14 : w3.heap.size < w14.heap.size := Nat.lt_of_lt_of_le lw0_13 hq14.size
  clear mw0_0_13 mw0_1_13 mw0_2_13 lw0_13 qw0_0_13 qw0_1_13 qw0_2_13
  have mx0_0_14 : w14.cell? ⟨w4.heap.size, 0, none⟩ = some (.int .i64 a0) := (hq14.cell (p := ⟨w4.heap.size, 0, none⟩) lx0_13).trans mx0_0_13
  have mx0_1_14 : w14.cell? ⟨w4.heap.size, 1, none⟩ = some (.int .i64 b0) := (hq14.cell (p := ⟨w4.heap.size, 1, none⟩) lx0_13).trans mx0_1_13
  have mx0_2_14 : w14.cell? ⟨w4.heap.size, 2, none⟩ = some (.slice A_x0 n_x0 c_x0) := (hq14.cell (p := ⟨w4.heap.size, 2, none⟩) lx0_13).trans mx0_2_13
  have lx0_14 : w4.heap.size < w14.heap.size := Nat.lt_of_lt_of_le lx0_13 hq14.size
  clear mx0_0_13 mx0_1_13 mx0_2_13 lx0_13 qx0_0_13 qx0_1_13 qx0_2_13
  have mg0_0_14 : w14.cell? ⟨w5.heap.size, 0, none⟩ = some (.int .i64 ra0) := (hq14.cell (p := ⟨w5.heap.size, 0, none⟩) lg0_13).trans mg0_0_13
  have mg0_1_14 : w14.cell? ⟨w5.heap.size, 1, none⟩ = some (.int .i64 rb0) := (hq14.cell (p := ⟨w5.heap.size, 1, none⟩) lg0_13).trans mg0_1_13
  have mg0_2_14 : w14.cell? ⟨w5.heap.size, 2, none⟩ = some (.slice A_g0 n_g0 c_g0) := (hq14.cell (p := ⟨w5.heap.size, 2, none⟩) lg0_13).trans mg0_2_13
  have lg0_14 : w5.heap.size < w14.heap.size := Nat.lt_of_lt_of_le lg0_13 hq14.size
  clear mg0_0_13 mg0_1_13 mg0_2_13 lg0_13 qg0_0_13 qg0_1_13 qg0_2_13
  have mh0_0_14 : w14.cell? ⟨w13.heap.size, 0, none⟩ = some (.int .i64 ra0) := (hb14.cell (p := ⟨w13.heap.size, 0, none⟩) (by simp <;> omega)).trans (by simp)
  have mh0_1_14 : w14.cell? ⟨w13.heap.size, 1, none⟩ = some (.int .i64 rb0) := (hb14.cell (p := ⟨w13.heap.size, 1, none⟩) (by simp <;> omega)).trans (by simp)
  have mh0_2_14 : w14.cell? ⟨w13.heap.size, 2, none⟩ = some (.slice A_h0 n_h0 c_h0) := (hb14.cell (p := ⟨w13.heap.size, 2, none⟩) (by simp <;> omega)).trans (by simp)
  have lh0_14 : w13.heap.size < w14.heap.size := by omega
  clear hb14 hq14 HB13
  go_wp2_with fail
  refine (heldTrace_any ra0 rb0 A_g0 n_g0 c_g0 _ _ ((unhide Og0_14).ri) (by omega) (by omega) (by omega)).mono ?_
  rintro e w15 ⟨rfl, hb15⟩
  have hq15 := hb15
  have z15 : w14.heap.size + 0 ≤ w15.heap.size := by have := hb15.size; (try simp at this); omega
  have HB15 := hide ((unhide HB14).trans (hq15.mono (unhide HB14).size))
  have Ow0_15 := hide ((unhide Ow0_14).below hq15 (Nat.le_refl _))
  clear Ow0_14
  have Ox0_15 := hide ((unhide Ox0_14).below hq15 (Nat.le_refl _))
  clear Ox0_14
  have Og0_15 := hide ((unhide Og0_14).below hq15 (Nat.le_refl _))
  clear Og0_14
  have Oh0_15 := hide ((unhide Oh0_14).below hq15 (Nat.le_refl _))
  clear Oh0_14
  have ma0_0_15 : w15.cell? ⟨w.heap.size, 0, none⟩ = some (.int .i64 a0) := (hq15.cell (p := ⟨w.heap.size, 0, none⟩) la0_14).trans ma0_0_14
  have ma0_1_15 : w15.cell? ⟨w.heap.size, 1, none⟩ = some (.int .i64 b0) := (hq15.cell (p := ⟨w.heap.size, 1, none⟩) la0_14).trans ma0_1_14
  have ma0_2_15 : w15.cell? ⟨w.heap.size, 2, none⟩ = some (.slice A0 n0 c0) := (hq15.cell (p := ⟨w.heap.size, 2, none⟩) la0_14).trans ma0_2_14
  have la0_15 : w.heap.size < w15.heap.size := Nat.lt_of_lt_of_le la0_14 hq15.size
  clear ma0_0_14 ma0_1_14 ma0_2_14 la0_14 
  have mw0_0_15 : w15.cell? ⟨w3.heap.size, 0, none⟩ = some (.int .i64 ra0) := (hq15.cell (p := ⟨w3.heap.size, 0, none⟩) lw0_14).trans mw0_0_14
  have mw0_1_15 : w15.cell? ⟨w3.heap.size, 1, none⟩ = some (.int .i64 rb0) := (hq15.cell (p := ⟨w3.heap.size, 1, none⟩) lw0_14).trans mw0_1_14
  have mw0_2_15 : w15.cell? ⟨w3.heap.size, 2, none⟩ = some (.slice A_w0 n_w0 c_w0) := (hq15.cell (p := ⟨w3.heap.size, 2, none⟩) lw0_14).trans mw0_2_14
  have lw0_15 : w3.heap.size < w15.heap.size := Nat.lt_of_lt_of_le lw0_14 hq15.size
  clear mw0_0_14 mw0_1_14 mw0_2_14 lw0_14 
  have mx0_0_15 : w15.cell? ⟨w4.heap.size, 0, none⟩ = some (.int .i64 a0) := (hq15.cell (p := ⟨w4.heap.size, 0, none⟩) lx0_14).trans mx0_0_14
  have mx0_1_15 : w15.cell? ⟨w4.heap.size, 1, none⟩ = some (.int .i64 b0) := (hq15.cell (p := ⟨w4.heap.size, 1, none⟩) lx0_14).trans mx0_1_14
  have mx0_2_15 : w15.cell? ⟨w4.heap.size, 2, none⟩ = some (.slice A_x0 n_x0 c_x0) := (hq15.cell (p := ⟨w4.heap.size, 2, none⟩) lx0_14).trans mx0_2_14
  have lx0_15 : w4.heap.size < w15.heap.size := Nat.lt_of_lt_of_le lx0_14 hq15.size
  clear mx0_0_14 mx0_1_14 mx0_2_14 lx0_14 
  have mg0_0_15 : w15.cell? ⟨w5.heap.size, 0, none⟩ = some (.int .i64 ra0) := (hq15.cell (p := ⟨w5.heap.size, 0, none⟩) lg0_14).trans mg0_0_14
  have mg0_1_15 : w15.cell? ⟨w5.heap.size, 1, none⟩ = some (.int .i64 rb0) := (hq15.cell (p := ⟨w5.heap.size, 1, none⟩) lg0_14).trans mg0_1_14
  have mg0_2_15 : w15.cell? ⟨w5.heap.size, 2, none⟩ = some (.slice A_g0 n_g0 c_g0) := (hq15.cell (p := ⟨w5.heap.size, 2, none⟩) lg0_14).trans mg0_2_14
  have lg0_15 : w5.heap.size < w15.heap.size := Nat.lt_of_lt_of_le lg0_14 hq15.size
  clear mg0_0_14 mg0_1_14 mg0_2_14 lg0_14 
  have mh0_0_15 : w15.cell? ⟨w13.heap.size, 0, none⟩ = some (.int .i64 ra0) := (hq15.cell (p := ⟨w13.heap.size, 0, none⟩) lh0_14).trans mh0_0_14
  have mh0_1_15 : w15.cell? ⟨w13.heap.size, 1, none⟩ = some (.int .i64 rb0) := (hq15.cell (p := ⟨w13.heap.size, 1, none⟩) lh0_14).trans mh0_1_14
  have mh0_2_15 : w15.cell? ⟨w13.heap.size, 2, none⟩ = some (.slice A_h0 n_h0 c_h0) := (hq15.cell (p := ⟨w13.heap.size, 2, none⟩) lh0_14).trans mh0_2_14
  have lh0_15 : w13.heap.size < w15.heap.size := Nat.lt_of_lt_of_le lh0_14 hq15.size
  clear mh0_0_14 mh0_1_14 mh0_2_14 lh0_14 
  clear hb15 hq15 HB14
  go_wp2_with fail
  go_ret
  exact ⟨rfl, unhide HB15⟩
end Go.Proofs.Ytdpmpdhhjmbbcaa
