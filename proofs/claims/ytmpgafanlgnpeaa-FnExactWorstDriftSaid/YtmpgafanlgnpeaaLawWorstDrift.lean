/- The walk of the law FnExactWorstDrift: it says true, at every input; what was there stays as it was. By gen_law3.py. -/
import Derived.Test.YtmpgafanlgnpeaaProg
import Derived.Test.YtmpgafanlgnpeaaClkG
namespace Go.Proofs.Ytmpgafanlgnpeaa
open Go.RowKit
set_option linter.unusedVariables false

set_option maxHeartbeats 4000000 in
set_option maxRecDepth 100000 in
theorem law_WorstDrift (A0 : Option Addr) (n0 c0 : Nat) (xs0 : List (Int × Int)) (w : World) (hr0 : RP w w.heap.size A0 n0 xs0) (hm0 : n0 ≤ 9223372036854775807) :
    Calls Try.prog 7 #[.slice A0 n0 c0] w fun e w' => e = .returned (.bool true) ∧ Below w.heap.size w w' := by
  by_cases hbig0 : 1048576 - (n0 : Int) < 0
  · have hz : szI (1048576) n0 = -1 := by unfold szI; rw [if_pos hbig0]
    have Z := fun W => szClockMarkS_any A0 n0 c0 (1048576) W (by omega) (by omega) hm0
    rw [hz] at Z
    have HZ := hide Z
    clear Z hz hr0
    go_enter Try.func7, Try.ntmps7
    go_wp2_with fail
    refine (unhide HZ _).mono ?_
    rintro e w1 ⟨rfl, rfl⟩
    go_wp2_with fail
    go_ret
    exact ⟨rfl, Below.refl _ _⟩
  have hle0 : n0 ≤ 1048576 := by omega
  have HZ0 : Hid (∀ W, Calls Try.prog 15 #[.slice A0 n0 c0, .int .i64 (1048576)] W fun e w' => e = .returned (.int .i64 (1048576 - (n0 : Int))) ∧ W = w') := by
    intro W
    have Z := szClockMarkS_any A0 n0 c0 (1048576) W (by omega) (by omega) hm0
    have hz : szI (1048576) n0 = 1048576 - (n0 : Int) := by unfold szI; rw [if_neg hbig0]
    rwa [hz] at Z
  obtain ⟨r0, r1, HS, HI⟩ : ∃ (r0 : Int) (r1 : Bool), Hid (∀ (W : World) (A0' : Option Addr) (n0' c0' : Nat), n0' ≤ 1048576 → RP W W.heap.size A0' n0' xs0 → Calls Try.prog 30 #[.slice A0' n0' c0'] W (RetNB W r0 r1)) ∧ Hid (∀ (W : World) (A0' : Option Addr) (n0' c0' : Nat), n0' ≤ 1048576 → RP W W.heap.size A0' n0' xs0 → Calls Try.prog 31 #[.slice A0' n0' c0'] W (RetNB W r0 r1)) :=
    ⟨_, _, fun W A0' n0' c0' h0' g0' => specWorst_any A0' n0' c0' xs0 W g0' (by omega), fun W A0' n0' c0' h0' g0' => implWorst_any A0' n0' c0' xs0 W g0' (by omega)⟩
  have HR0 := hide hr0
  have HL0 := hide hr0.len
  clear hr0
  clear hbig0
  have HB0 := hide (Below.refl w.heap.size w)
  go_enter Try.func7, Try.ntmps7
  go_wp2_with fail
  refine (unhide HZ0 _).mono ?_
  rintro e wz0 ⟨rfl, rfl⟩
  go_wp2_with fail
  refine (toClockMarkS_any A0 n0 c0 xs0 _ (((unhide HR0).below (unhide HB0)).more (unhide HB0).size) hle0).mono ?_
  rintro e w1 ⟨A_p0, n_p0, c_p0, rfl, hO1, hb1⟩
  have hn_p0 : n_p0 ≤ 1048576 := by have := hO1.len; have := unhide HL0; omega
  have z1 := hb1.size
  have HB1 := hide ((unhide HB0).trans (hb1.mono (unhide HB0).size))
  clear hb1 HB0
  have Op0_1 := hide (ownR_of hO1)
  clear hO1
  go_wp2_with fail
  refine (unhide HS _ A_p0 n_p0 c_p0 hn_p0 ((unhide Op0_1).rp)).mono ?_
  rintro e w2 ⟨rfl, hb2⟩
  have z2 := hb2.size
  have HB2 := hide ((unhide HB1).trans (hb2.mono (unhide HB1).size))
  have Op0_2 := hide ((unhide Op0_1).below hb2 (Nat.le_refl _))
  clear Op0_1
  clear hb2 HB1
  clear Op0_2
  go_wp2_with fail
  refine (toClockMarkS_any A0 n0 c0 xs0 _ (((unhide HR0).below (unhide HB2)).more (unhide HB2).size) hle0).mono ?_
  rintro e w3 ⟨A_x0, n_x0, c_x0, rfl, hO3, hb3⟩
  have hn_x0 : n_x0 ≤ 1048576 := by have := hO3.len; have := unhide HL0; omega
  have z3 := hb3.size
  have HB3 := hide ((unhide HB2).trans (hb3.mono (unhide HB2).size))
  clear hb3 HB2
  have Ox0_3 := hide (ownR_of hO3)
  clear hO3
  go_wp2_with fail
  refine (unhide HI _ A_x0 n_x0 c_x0 hn_x0 ((unhide Ox0_3).rp)).mono ?_
  rintro e w4 ⟨rfl, hb4⟩
  have z4 := hb4.size
  have HB4 := hide ((unhide HB3).trans (hb4.mono (unhide HB3).size))
  have Ox0_4 := hide ((unhide Ox0_3).below hb4 (Nat.le_refl _))
  clear Ox0_3
  clear hb4 HB3
  go_wp2_with fail
  refine (toClockMarkS_any A0 n0 c0 xs0 _ (((unhide HR0).below (unhide HB4)).more (unhide HB4).size) hle0).mono ?_
  rintro e w5 ⟨A_y0, n_y0, c_y0, rfl, hO5, hb5⟩
  have hn_y0 : n_y0 ≤ 1048576 := by have := hO5.len; have := unhide HL0; omega
  have z5 := hb5.size
  have HB5 := hide ((unhide HB4).trans (hb5.mono (unhide HB4).size))
  have Ox0_5 := hide ((unhide Ox0_4).below hb5 (Nat.le_refl _))
  clear Ox0_4
  clear hb5 HB4
  have Oy0_5 := hide (ownR_of hO5)
  clear hO5
  go_wp2_with fail
  refine (eqClockMarkS_any A_x0 A_y0 n_x0 n_y0 c_x0 c_y0 _ _ xs0 xs0 _ ((unhide Ox0_5).rp) ((unhide Oy0_5).rp) (unhide Ox0_5).max (unhide Oy0_5).max (Nat.le_refl _) (Nat.le_refl _)).mono ?_
  rintro e w6 ⟨rfl, hb6⟩
  have z6 := hb6.size
  have HB6 := hide ((unhide HB5).trans (hb6.mono (unhide HB5).size))
  have Ox0_6 := hide ((unhide Ox0_5).below hb6 (Nat.le_refl _))
  clear Ox0_5
  have Oy0_6 := hide ((unhide Oy0_5).below hb6 (Nat.le_refl _))
  clear Oy0_5
  clear hb6 HB5
  clear Oy0_6
  go_wp2_with fail
  go_ret
  exact ⟨rfl, unhide HB6⟩
end Go.Proofs.Ytmpgafanlgnpeaa
