/- The walk of the law FnExactDropMarks: it says true, at every input; what was there stays as it was. By gen_law3.py. -/
import Derived.Test.YtmpgafanlgnpeaaProg
import Derived.Test.YtmpgafanlgnpeaaDropD
namespace Go.Proofs.Ytmpgafanlgnpeaa
open Go.RowKit
set_option linter.unusedVariables false

set_option maxHeartbeats 4000000 in
set_option maxRecDepth 100000 in
theorem law_DropMarks (A0 : Option Addr) (n0 c0 : Nat) (xs0 : List (Int × Int)) (a1 : Int) (w : World) (hr0 : RP w w.heap.size A0 n0 xs0) (hm0 : n0 ≤ 9223372036854775807) (hi1 : -9223372036854775808 ≤ a1 ∧ a1 ≤ 9223372036854775807) :
    Calls Try.prog 9 #[.slice A0 n0 c0, .int .i64 a1] w fun e w' => e = .returned (.bool true) ∧ Below w.heap.size w w' := by
  by_cases hbig0 : 1048576 - (n0 : Int) < 0
  · have hz : szI (1048576) n0 = -1 := by unfold szI; rw [if_pos hbig0]
    have Z := fun W => szClockMarkS_any A0 n0 c0 (1048576) W (by omega) (by omega) hm0
    rw [hz] at Z
    have HZ := hide Z
    clear Z hz hr0
    go_enter Try.func9, Try.ntmps9
    go_wp2_with fail
    refine (unhide HZ _).mono ?_
    rintro e w1 ⟨rfl, rfl⟩
    go_wp2_with fail
    go_ret
    exact ⟨rfl, Below.refl _ _⟩
  have hle0 : n0 ≤ 1048576 := by omega
  have HZ0 : Hid (∀ W, Calls Try.prog 15 #[.slice A0 n0 c0, .int .i64 (1048576)] W fun e w' => e = .returned (.int .i64 (1048576 - (n0 : Int))) ∧ W = w') := by
    intro W
    have Z := szClockMarkS_any A0 n0 c0 (1048576) W (by omega) (by omega) hm0
    have hz : szI (1048576) n0 = 1048576 - (n0 : Int) := by unfold szI; rw [if_neg hbig0]
    rwa [hz] at Z
  obtain ⟨ys0, r1, HS, HI, HY0⟩ : ∃ (ys0 : List (Int × Int)) (r1 : Bool), Hid (∀ (W : World) (A0' : Option Addr) (n0' c0' : Nat), n0' ≤ 1048576 → RP W W.heap.size A0' n0' xs0 → Calls Try.prog 36 #[.slice A0' n0' c0', .int .i64 a1] W (RetMB W ys0 r1)) ∧ Hid (∀ (W : World) (A0' : Option Addr) (n0' c0' : Nat), n0' ≤ 1048576 → RP W W.heap.size A0' n0' xs0 → Calls Try.prog 37 #[.slice A0' n0' c0', .int .i64 a1] W (RetMB W ys0 r1)) ∧ Hid (ys0.length ≤ 2097152) :=
    ⟨_, _, fun W A0' n0' c0' h0' g0' => specDrop_any A0' n0' c0' xs0 a1 W g0' (by omega), fun W A0' n0' c0' h0' g0' => implDrop_any A0' n0' c0' xs0 a1 W g0' (by omega), dropR_len _ _⟩
  have HR0 := hide hr0
  have HL0 := hide hr0.len
  clear hr0
  clear hbig0
  have HB0 := hide (Below.refl w.heap.size w)
  go_enter Try.func9, Try.ntmps9
  go_wp2_with fail
  refine (unhide HZ0 _).mono ?_
  rintro e wz0 ⟨rfl, rfl⟩
  go_wp2_with fail
  refine (toClockMarkS_any A0 n0 c0 xs0 _ (((unhide HR0).below (unhide HB0)).more (unhide HB0).size) hle0).mono ?_
  rintro e w1 ⟨A_p0, n_p0, c_p0, rfl, hO1, hb1⟩
  have hn_p0 : n_p0 ≤ 1048576 := by have := hO1.len; have := unhide HL0; omega
  have z1 := hb1.size
  have HB1 := hide ((unhide HB0).trans (hb1.mono (unhide HB0).size))
  clear hb1 HB0
  have Op0_1 := hide (ownR_of hO1)
  clear hO1
  go_wp2_with fail
  refine (unhide HS _ A_p0 n_p0 c_p0 hn_p0 ((unhide Op0_1).rp)).mono ?_
  rintro e w2 ⟨A_w0, n_w0, c_w0, rfl, hO2_0, hb2⟩
  have hn_w0 : n_w0 ≤ 2097152 := by have := hO2_0.len; have := unhide HY0; omega
  have z2 := hb2.size
  have HB2 := hide ((unhide HB1).trans (hb2.mono (unhide HB1).size))
  have Op0_2 := hide ((unhide Op0_1).below hb2 (Nat.le_refl _))
  clear Op0_1
  clear hb2 HB1
  have Ow0_2 := hide (ownR_of hO2_0)
  clear hO2_0
  clear Op0_2
  go_wp2_with fail
  refine (toClockMarkS_any A0 n0 c0 xs0 _ (((unhide HR0).below (unhide HB2)).more (unhide HB2).size) hle0).mono ?_
  rintro e w3 ⟨A_x0, n_x0, c_x0, rfl, hO3, hb3⟩
  have hn_x0 : n_x0 ≤ 1048576 := by have := hO3.len; have := unhide HL0; omega
  have z3 := hb3.size
  have HB3 := hide ((unhide HB2).trans (hb3.mono (unhide HB2).size))
  have Ow0_3 := hide ((unhide Ow0_2).below hb3 (Nat.le_refl _))
  clear Ow0_2
  clear hb3 HB2
  have Ox0_3 := hide (ownR_of hO3)
  clear hO3
  go_wp2_with fail
  refine (unhide HI _ A_x0 n_x0 c_x0 hn_x0 ((unhide Ox0_3).rp)).mono ?_
  rintro e w4 ⟨A_g0, n_g0, c_g0, rfl, hO4_0, hb4⟩
  have hn_g0 : n_g0 ≤ 2097152 := by have := hO4_0.len; have := unhide HY0; omega
  have z4 := hb4.size
  have HB4 := hide ((unhide HB3).trans (hb4.mono (unhide HB3).size))
  have Ow0_4 := hide ((unhide Ow0_3).below hb4 (Nat.le_refl _))
  clear Ow0_3
  have Ox0_4 := hide ((unhide Ox0_3).below hb4 (Nat.le_refl _))
  clear Ox0_3
  clear hb4 HB3
  have Og0_4 := hide (ownR_of hO4_0)
  clear hO4_0
  go_wp2_with fail
  refine (eqClockMarkS_any A_g0 A_w0 n_g0 n_w0 c_g0 c_w0 _ _ ys0 ys0 _ ((unhide Og0_4).rp) ((unhide Ow0_4).rp) (unhide Og0_4).max (unhide Ow0_4).max (Nat.le_refl _) (Nat.le_refl _)).mono ?_
  rintro e w5 ⟨rfl, hb5⟩
  have z5 := hb5.size
  have HB5 := hide ((unhide HB4).trans (hb5.mono (unhide HB4).size))
  have Ow0_5 := hide ((unhide Ow0_4).below hb5 (Nat.le_refl _))
  clear Ow0_4
  have Ox0_5 := hide ((unhide Ox0_4).below hb5 (Nat.le_refl _))
  clear Ox0_4
  have Og0_5 := hide ((unhide Og0_4).below hb5 (Nat.le_refl _))
  clear Og0_4
  clear hb5 HB4
  go_wp2_with fail
  refine (toClockMarkS_any A0 n0 c0 xs0 _ (((unhide HR0).below (unhide HB5)).more (unhide HB5).size) hle0).mono ?_
  rintro e w6 ⟨A_y0, n_y0, c_y0, rfl, hO6, hb6⟩
  have hn_y0 : n_y0 ≤ 1048576 := by have := hO6.len; have := unhide HL0; omega
  have z6 := hb6.size
  have HB6 := hide ((unhide HB5).trans (hb6.mono (unhide HB5).size))
  have Ow0_6 := hide ((unhide Ow0_5).below hb6 (Nat.le_refl _))
  clear Ow0_5
  have Ox0_6 := hide ((unhide Ox0_5).below hb6 (Nat.le_refl _))
  clear Ox0_5
  have Og0_6 := hide ((unhide Og0_5).below hb6 (Nat.le_refl _))
  clear Og0_5
  clear hb6 HB5
  have Oy0_6 := hide (ownR_of hO6)
  clear hO6
  go_wp2_with fail
  refine (eqClockMarkS_any A_x0 A_y0 n_x0 n_y0 c_x0 c_y0 _ _ xs0 xs0 _ ((unhide Ox0_6).rp) ((unhide Oy0_6).rp) (unhide Ox0_6).max (unhide Oy0_6).max (Nat.le_refl _) (Nat.le_refl _)).mono ?_
  rintro e w7 ⟨rfl, hb7⟩
  have z7 := hb7.size
  have HB7 := hide ((unhide HB6).trans (hb7.mono (unhide HB6).size))
  have Ow0_7 := hide ((unhide Ow0_6).below hb7 (Nat.le_refl _))
  clear Ow0_6
  have Ox0_7 := hide ((unhide Ox0_6).below hb7 (Nat.le_refl _))
  clear Ox0_6
  have Og0_7 := hide ((unhide Og0_6).below hb7 (Nat.le_refl _))
  clear Og0_6
  have Oy0_7 := hide ((unhide Oy0_6).below hb7 (Nat.le_refl _))
  clear Oy0_6
  clear hb7 HB6
  clear Oy0_7
  go_wp2_with fail
  refine (markClockMarkS_any A_x0 n_x0 c_x0 _ xs0 _ _ (unhide Ox0_7).1 (by omega) (by omega) (by omega)).mono ?_
  rintro e w8 ⟨rfl, hO8, hg8⟩
  have z8 := hg8.size
  have HB8 := hide ((unhide Ox0_7).grown (unhide HB7) (by omega) (unhide HB7).size hg8)
  have Ow0_8 := hide ((unhide Ow0_7).kept hg8 (unhide Ox0_7) (by omega))
  clear Ow0_7
  have Og0_8 := hide ((unhide Og0_7).kept hg8 (unhide Ox0_7) (by omega))
  clear Og0_7
  clear hg8 HB7
  have Ox0_8 : Hid (OwnR _ _ _ _ _ _ _ _ _) := ⟨hO8, (unhide Ox0_7).2⟩
  clear Ox0_7 hO8
  go_wp2_with fail
  refine (eqClockMarkS_any A_g0 A_w0 n_g0 n_w0 c_g0 c_w0 _ _ ys0 ys0 _ ((unhide Og0_8).rp) ((unhide Ow0_8).rp) (unhide Og0_8).max (unhide Ow0_8).max (Nat.le_refl _) (Nat.le_refl _)).mono ?_
  rintro e w9 ⟨rfl, hb9⟩
  have z9 := hb9.size
  have HB9 := hide ((unhide HB8).trans (hb9.mono (unhide HB8).size))
  have Ow0_9 := hide ((unhide Ow0_8).below hb9 (Nat.le_refl _))
  clear Ow0_8
  have Ox0_9 := hide ((unhide Ox0_8).below hb9 (Nat.le_refl _))
  clear Ox0_8
  have Og0_9 := hide ((unhide Og0_8).below hb9 (Nat.le_refl _))
  clear Og0_8
  clear hb9 HB8
  clear Ox0_9
  go_wp2_with fail
  refine (markClockMarkS_any A_g0 n_g0 c_g0 _ ys0 _ _ (unhide Og0_9).1 (by omega) (by omega) (by omega)).mono ?_
  rintro e w10 ⟨rfl, hO10, hg10⟩
  have z10 := hg10.size
  have HB10 := hide ((unhide Og0_9).grown (unhide HB9) (by omega) (unhide HB9).size hg10)
  have Ow0_10 := hide ((unhide Ow0_9).kept hg10 (unhide Og0_9) (by omega))
  clear Ow0_9
  clear hg10 HB9
  have Og0_10 : Hid (OwnR _ _ _ _ _ _ _ _ _) := ⟨hO10, (unhide Og0_9).2⟩
  clear Og0_9 hO10
  go_wp2_with fail
  refine (heldClockMarkS_any A_g0 n_g0 c_g0 _ _ _ ((unhide Og0_10).rp) (by omega) (by omega) (by omega)).mono ?_
  rintro e wq ⟨rfl, rfl⟩
  go_wp2_with fail
  refine (toClockMarkS_any A0 n0 c0 xs0 _ (((unhide HR0).below (unhide HB10)).more (unhide HB10).size) hle0).mono ?_
  rintro e w11 ⟨A_q0, n_q0, c_q0, rfl, hO11, hb11⟩
  have hn_q0 : n_q0 ≤ 1048576 := by have := hO11.len; have := unhide HL0; omega
  have z11 := hb11.size
  have HB11 := hide ((unhide HB10).trans (hb11.mono (unhide HB10).size))
  have Ow0_11 := hide ((unhide Ow0_10).below hb11 (Nat.le_refl _))
  clear Ow0_10
  have Og0_11 := hide ((unhide Og0_10).below hb11 (Nat.le_refl _))
  clear Og0_10
  clear hb11 HB10
  have Oq0_11 := hide (ownR_of hO11)
  clear hO11
  go_wp2_with fail
  refine (unhide HI _ A_q0 n_q0 c_q0 hn_q0 ((unhide Oq0_11).rp)).mono ?_
  rintro e w12 ⟨A_h0, n_h0, c_h0, rfl, hO12_0, hb12⟩
  have hn_h0 : n_h0 ≤ 2097152 := by have := hO12_0.len; have := unhide HY0; omega
  have z12 := hb12.size
  have HB12 := hide ((unhide HB11).trans (hb12.mono (unhide HB11).size))
  have Ow0_12 := hide ((unhide Ow0_11).below hb12 (Nat.le_refl _))
  clear Ow0_11
  have Og0_12 := hide ((unhide Og0_11).below hb12 (Nat.le_refl _))
  clear Og0_11
  have Oq0_12 := hide ((unhide Oq0_11).below hb12 (Nat.le_refl _))
  clear Oq0_11
  clear hb12 HB11
  have Oh0_12 := hide (ownR_of hO12_0)
  clear hO12_0
  clear Oq0_12
  go_wp2_with fail
  refine (eqClockMarkS_any A_h0 A_w0 n_h0 n_w0 c_h0 c_w0 _ _ ys0 ys0 _ ((unhide Oh0_12).rp) ((unhide Ow0_12).rp) (unhide Oh0_12).max (unhide Ow0_12).max (Nat.le_refl _) (Nat.le_refl _)).mono ?_
  rintro e w13 ⟨rfl, hb13⟩
  have z13 := hb13.size
  have HB13 := hide ((unhide HB12).trans (hb13.mono (unhide HB12).size))
  have Ow0_13 := hide ((unhide Ow0_12).below hb13 (Nat.le_refl _))
  clear Ow0_12
  have Og0_13 := hide ((unhide Og0_12).below hb13 (Nat.le_refl _))
  clear Og0_12
  have Oh0_13 := hide ((unhide Oh0_12).below hb13 (Nat.le_refl _))
  clear Oh0_12
  clear hb13 HB12
  go_wp2_with fail
  refine (heldClockMarkS_any A_g0 n_g0 c_g0 _ _ _ ((unhide Og0_13).rp) (by omega) (by omega) (by omega)).mono ?_
  rintro e wq ⟨rfl, rfl⟩
  go_wp2_with fail
  go_ret
  exact ⟨rfl, unhide HB13⟩
end Go.Proofs.Ytmpgafanlgnpeaa
