/- The walk of the law FnExactSplitString: it says true, at every input; what was there stays as it was. By gen_law3.py. -/
import Derived.Test.YtibnindjdbkmcaaDoorProg
import Derived.Test.YtibnindjdbkmcaaDoorSplitB
import Derived.Test.YtibnindjdbkmcaaDoorMarkZ
namespace Go.Proofs.YtibnindjdbkmcaaDoor
open Go.RowKit
set_option linter.unusedVariables false

set_option maxHeartbeats 4000000 in
set_option maxRecDepth 100000 in
theorem law_SplitString (a0 : ByteArray) (a1 : ByteArray) (w : World) (hi0 : a0.size ≤ 9223372036854775807) (hi1 : a1.size ≤ 9223372036854775807) (hv : MaxL w) :
    Calls Tryd.prog 3 #[.string a0, .string a1] w fun e w' => e = .returned (.bool true) ∧ Below w.heap.size w w' := by
  by_cases hbs0 : 1048576 < a0.size
  · go_enter Tryd.func3, Tryd.ntmps3
    go_wp2_with fail
    go_ret
    exact ⟨rfl, Below.refl _ _⟩
  have hls0 : a0.size ≤ 1048576 := by omega
  clear hbs0 hi0
  by_cases hbs1 : 1048576 < a1.size
  · go_enter Tryd.func3, Tryd.ntmps3
    go_wp2_with fail
    go_ret
    exact ⟨rfl, Below.refl _ _⟩
  have hls1 : a1.size ≤ 1048576 := by omega
  clear hbs1 hi1
  obtain ⟨ys0, r1, HS, HI, HY0⟩ : ∃ (ys0 : List ByteArray) (r1 : Bool), Hid (∀ (W : World), Calls Tryd.prog 5 #[.string a0, .string a1] W (RetTB W ys0 r1)) ∧ Hid (∀ (W : World), MaxL W → Calls Tryd.prog 6 #[.string a0, .string a1] W (RetTB W ys0 r1)) ∧ Hid (ys0.length ≤ 2097152) :=
    ⟨_, _, fun W   => specSplit_any a0 a1 W hls0 hls1, fun W   hv => implSplit_any a0 a1 W hls0 hls1 hv, splitR_len _ _⟩
  have HV := hide hv
  clear hv
  have HB0 := hide (Below.refl w.heap.size w)
  go_enter Tryd.func3, Tryd.ntmps3
  go_wp2_with fail
  refine (unhide HS _ ).mono ?_
  rintro e w1 ⟨A_w0, n_w0, c_w0, rfl, hO1_0, hb1⟩
  have hn_w0 : n_w0 ≤ 2097152 := by have := hO1_0.len; have := unhide HY0; omega
  have z1 := hb1.size
  have HB1 := hide ((unhide HB0).trans (hb1.mono (unhide HB0).size))
  clear hb1 HB0
  have Ow0_1 := hide (ownR_of hO1_0)
  clear hO1_0
  go_wp2_with fail
  refine (unhide HI _  ((unhide HV).stays (unhide HB1))).mono ?_
  rintro e w2 ⟨A_g0, n_g0, c_g0, rfl, hO2_0, hb2⟩
  have hn_g0 : n_g0 ≤ 2097152 := by have := hO2_0.len; have := unhide HY0; omega
  have z2 := hb2.size
  have HB2 := hide ((unhide HB1).trans (hb2.mono (unhide HB1).size))
  have Ow0_2 := hide ((unhide Ow0_1).below hb2 (Nat.le_refl _))
  clear Ow0_1
  clear hb2 HB1
  have Og0_2 := hide (ownR_of hO2_0)
  clear hO2_0
  go_wp2_with fail
  refine (eqStringS_any A_g0 A_w0 n_g0 n_w0 c_g0 c_w0 _ _ ys0 ys0 _ ((unhide Og0_2).rt) ((unhide Ow0_2).rt) (unhide Og0_2).max (unhide Ow0_2).max).mono ?_
  rintro e w3 ⟨rfl, hb3⟩
  have z3 := hb3.size
  have HB3 := hide ((unhide HB2).trans (hb3.mono (unhide HB2).size))
  have Ow0_3 := hide ((unhide Ow0_2).below hb3 (Nat.le_refl _))
  clear Ow0_2
  have Og0_3 := hide ((unhide Og0_2).below hb3 (Nat.le_refl _))
  clear Og0_2
  clear hb3 HB2
  go_wp2_with fail
  refine (markStringS_any A_g0 n_g0 c_g0 _ ys0 _ _ (unhide Og0_3).1 (by omega) (by omega) (by omega)).mono ?_
  rintro e w4 ⟨rfl, hO4, hg4⟩
  have z4 := hg4.size
  have HB4 := hide ((unhide Og0_3).grown (unhide HB3) (by omega) (unhide HB3).size hg4)
  have Ow0_4 := hide ((unhide Ow0_3).kept hg4 (unhide Og0_3) (by omega))
  clear Ow0_3
  clear hg4 HB3
  have Og0_4 : Hid (OwnR _ _ _ _ _ _ _ _ _) := ⟨hO4, (unhide Og0_3).2⟩
  clear Og0_3 hO4
  go_wp2_with fail
  refine (heldStringS_any A_g0 n_g0 c_g0 _ _ ((unhide Og0_4).rt) (by omega) (by omega) (by omega)).mono ?_
  rintro e w5 ⟨rfl, hb5⟩
  have z5 := hb5.size
  have HB5 := hide ((unhide HB4).trans (hb5.mono (unhide HB4).size))
  have Ow0_5 := hide ((unhide Ow0_4).below hb5 (Nat.le_refl _))
  clear Ow0_4
  have Og0_5 := hide ((unhide Og0_4).below hb5 (Nat.le_refl _))
  clear Og0_4
  clear hb5 HB4
  go_wp2_with fail
  refine (unhide HI _  ((unhide HV).stays (unhide HB5))).mono ?_
  rintro e w6 ⟨A_h0, n_h0, c_h0, rfl, hO6_0, hb6⟩
  have hn_h0 : n_h0 ≤ 2097152 := by have := hO6_0.len; have := unhide HY0; omega
  have z6 := hb6.size
  have HB6 := hide ((unhide HB5).trans (hb6.mono (unhide HB5).size))
  have Ow0_6 := hide ((unhide Ow0_5).below hb6 (Nat.le_refl _))
  clear Ow0_5
  have Og0_6 := hide ((unhide Og0_5).below hb6 (Nat.le_refl _))
  clear Og0_5
  clear hb6 HB5
  have Oh0_6 := hide (ownR_of hO6_0)
  clear hO6_0
  go_wp2_with fail
  refine (eqStringS_any A_h0 A_w0 n_h0 n_w0 c_h0 c_w0 _ _ ys0 ys0 _ ((unhide Oh0_6).rt) ((unhide Ow0_6).rt) (unhide Oh0_6).max (unhide Ow0_6).max).mono ?_
  rintro e w7 ⟨rfl, hb7⟩
  have z7 := hb7.size
  have HB7 := hide ((unhide HB6).trans (hb7.mono (unhide HB6).size))
  have Ow0_7 := hide ((unhide Ow0_6).below hb7 (Nat.le_refl _))
  clear Ow0_6
  have Og0_7 := hide ((unhide Og0_6).below hb7 (Nat.le_refl _))
  clear Og0_6
  have Oh0_7 := hide ((unhide Oh0_6).below hb7 (Nat.le_refl _))
  clear Oh0_6
  clear hb7 HB6
  go_wp2_with fail
  refine (heldStringS_any A_g0 n_g0 c_g0 _ _ ((unhide Og0_7).rt) (by omega) (by omega) (by omega)).mono ?_
  rintro e w8 ⟨rfl, hb8⟩
  have z8 := hb8.size
  have HB8 := hide ((unhide HB7).trans (hb8.mono (unhide HB7).size))
  have Ow0_8 := hide ((unhide Ow0_7).below hb8 (Nat.le_refl _))
  clear Ow0_7
  have Og0_8 := hide ((unhide Og0_7).below hb8 (Nat.le_refl _))
  clear Og0_7
  have Oh0_8 := hide ((unhide Oh0_7).below hb8 (Nat.le_refl _))
  clear Oh0_7
  clear hb8 HB7
  go_wp2_with fail
  go_ret
  exact ⟨rfl, unhide HB8⟩
end Go.Proofs.YtibnindjdbkmcaaDoor
