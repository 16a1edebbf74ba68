/- The walk of the law FnExactLargestGap: it says true, at every input; what was there stays as it was. By gen_law3.py. -/
import Derived.Test.YtihkocplgciifaaProg
import Derived.Test.YtihkocplgciifaaGap
namespace Go.Proofs.Ytihkocplgciifaa
open Go.RowKit
set_option linter.unusedVariables false

set_option maxHeartbeats 4000000 in
set_option maxRecDepth 100000 in
theorem law_LargestGap (A0 : Option Addr) (n0 c0 : Nat) (xs0 : List St) (a1 : Int) (a2 : Int) (w : World) (hr0 : RS w w.heap.size A0 n0 xs0) (hm0 : n0 ≤ 9223372036854775807) (hw0 : ∀ x ∈ xs0, x.nm.size ≤ 9223372036854775807) (hi1 : -9223372036854775808 ≤ a1 ∧ a1 ≤ 9223372036854775807) (hi2 : -9223372036854775808 ≤ a2 ∧ a2 ≤ 9223372036854775807) :
    Calls Try.prog 11 #[.slice A0 n0 c0, .int .i64 a1, .int .i64 a2] w fun e w' => e = .returned (.bool true) ∧ Below w.heap.size w w' := by
  have HZ0 := hide (szStationS_any A0 n0 c0 xs0 w hr0 hm0 hw0)
  obtain ⟨r0, r1, HS, HI⟩ : ∃ (r0 : Int) (r1 : Bool), Hid (∀ (W : World) (A0' : Option Addr) (n0' c0' : Nat), n0' ≤ 1048576 → RS W W.heap.size A0' n0' xs0 → Calls Try.prog 41 #[.slice A0' n0' c0', .int .i64 a1, .int .i64 a2] W (RetNB W r0 r1)) ∧ Hid (∀ (W : World) (A0' : Option Addr) (n0' c0' : Nat), n0' ≤ 1048576 → RS W W.heap.size A0' n0' xs0 → Calls Try.prog 42 #[.slice A0' n0' c0', .int .i64 a1, .int .i64 a2] W (RetNB W r0 r1)) :=
    ⟨_, _, fun W A0' n0' c0' h0' g0' => specGap_any A0' n0' c0' xs0 a1 a2 W g0' (by omega) hw0, fun W A0' n0' c0' h0' g0' => implGap_any A0' n0' c0' xs0 a1 a2 W g0' (by omega) hw0⟩
  have HR0 := hide hr0
  have HL0 := hide hr0.len
  clear hr0
  have HB0 := hide (Below.refl w.heap.size w)
  go_enter Try.func11, Try.ntmps11
  go_wp2_with fail
  refine (unhide HZ0).mono ?_
  rintro e w1 ⟨r, rfl, hr, hb1⟩
  have z1 := hb1.size
  have HB1 := hide ((unhide HB0).trans (hb1.mono (unhide HB0).size))
  clear hb1 HB0
  rcases hr with rfl | ⟨hr0, hle0⟩
  · go_wp2_with fail
    go_ret
    exact ⟨rfl, unhide HB1⟩
  go_wp2_with fail
  refine (toStationS_any A0 n0 c0 xs0 _ (((unhide HR0).below (unhide HB1)).more (unhide HB1).size) hle0).mono ?_
  rintro e w2 ⟨A_p0, n_p0, c_p0, rfl, hO2, hb2⟩
  have hn_p0 : n_p0 ≤ 1048576 := by have := hO2.len; have := unhide HL0; omega
  have z2 := hb2.size
  have HB2 := hide ((unhide HB1).trans (hb2.mono (unhide HB1).size))
  clear hb2 HB1
  have Op0_2 := hide (ownR_of hO2)
  clear hO2
  go_wp2_with fail
  refine (unhide HS _ A_p0 n_p0 c_p0 hn_p0 ((unhide Op0_2).rs)).mono ?_
  rintro e w3 ⟨rfl, hb3⟩
  have z3 := hb3.size
  have HB3 := hide ((unhide HB2).trans (hb3.mono (unhide HB2).size))
  have Op0_3 := hide ((unhide Op0_2).below hb3 (Nat.le_refl _))
  clear Op0_2
  clear hb3 HB2
  clear Op0_3
  go_wp2_with fail
  refine (toStationS_any A0 n0 c0 xs0 _ (((unhide HR0).below (unhide HB3)).more (unhide HB3).size) hle0).mono ?_
  rintro e w4 ⟨A_x0, n_x0, c_x0, rfl, hO4, hb4⟩
  have hn_x0 : n_x0 ≤ 1048576 := by have := hO4.len; have := unhide HL0; omega
  have z4 := hb4.size
  have HB4 := hide ((unhide HB3).trans (hb4.mono (unhide HB3).size))
  clear hb4 HB3
  have Ox0_4 := hide (ownR_of hO4)
  clear hO4
  go_wp2_with fail
  refine (unhide HI _ A_x0 n_x0 c_x0 hn_x0 ((unhide Ox0_4).rs)).mono ?_
  rintro e w5 ⟨rfl, hb5⟩
  have z5 := hb5.size
  have HB5 := hide ((unhide HB4).trans (hb5.mono (unhide HB4).size))
  have Ox0_5 := hide ((unhide Ox0_4).below hb5 (Nat.le_refl _))
  clear Ox0_4
  clear hb5 HB4
  go_wp2_with fail
  refine (toStationS_any A0 n0 c0 xs0 _ (((unhide HR0).below (unhide HB5)).more (unhide HB5).size) hle0).mono ?_
  rintro e w6 ⟨A_y0, n_y0, c_y0, rfl, hO6, hb6⟩
  have hn_y0 : n_y0 ≤ 1048576 := by have := hO6.len; have := unhide HL0; omega
  have z6 := hb6.size
  have HB6 := hide ((unhide HB5).trans (hb6.mono (unhide HB5).size))
  have Ox0_6 := hide ((unhide Ox0_5).below hb6 (Nat.le_refl _))
  clear Ox0_5
  clear hb6 HB5
  have Oy0_6 := hide (ownR_of hO6)
  clear hO6
  go_wp2_with fail
  refine (eqStationS_any A_x0 A_y0 n_x0 n_y0 c_x0 c_y0 _ _ xs0 xs0 _ ((unhide Ox0_6).rs) ((unhide Oy0_6).rs) (unhide Ox0_6).max (unhide Oy0_6).max (Nat.le_refl _) (Nat.le_refl _)).mono ?_
  rintro e w7 ⟨rfl, hb7⟩
  have z7 := hb7.size
  have HB7 := hide ((unhide HB6).trans (hb7.mono (unhide HB6).size))
  have Ox0_7 := hide ((unhide Ox0_6).below hb7 (Nat.le_refl _))
  clear Ox0_6
  have Oy0_7 := hide ((unhide Oy0_6).below hb7 (Nat.le_refl _))
  clear Oy0_6
  clear hb7 HB6
  clear Oy0_7
  go_wp2_with fail
  go_ret
  exact ⟨rfl, unhide HB7⟩
end Go.Proofs.Ytihkocplgciifaa
