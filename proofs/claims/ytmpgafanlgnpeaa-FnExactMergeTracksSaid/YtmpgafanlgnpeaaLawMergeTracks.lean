/- The walk of the law FnExactMergeTracks: it says true, at every input; what was there stays as it was. By gen_law3.py. -/
import Derived.Test.YtmpgafanlgnpeaaProg
import Derived.Test.YtmpgafanlgnpeaaMergeB
namespace Go.Proofs.Ytmpgafanlgnpeaa
open Go.RowKit
set_option linter.unusedVariables false

set_option maxHeartbeats 4000000 in
set_option maxRecDepth 100000 in
theorem law_MergeTracks (A0 : Option Addr) (n0 c0 : Nat) (xs0 : List (Int × Int)) (A1 : Option Addr) (n1 c1 : Nat) (xs1 : List (Int × Int)) (w : World) (hr0 : RP w w.heap.size A0 n0 xs0) (hm0 : n0 ≤ 9223372036854775807) (hr1 : RP w w.heap.size A1 n1 xs1) (hm1 : n1 ≤ 9223372036854775807) :
    Calls Try.prog 12 #[.slice A0 n0 c0, .slice A1 n1 c1] w fun e w' => e = .returned (.bool true) ∧ Below w.heap.size w w' := by
  by_cases hbig0 : 1048576 - (n0 : Int) < 0
  · have hz : szI (1048576) n0 = -1 := by unfold szI; rw [if_pos hbig0]
    have Z := fun W => szClockMarkS_any A0 n0 c0 (1048576) W (by omega) (by omega) hm0
    rw [hz] at Z
    have HZ := hide Z
    clear Z hz hr0 hr1
    go_enter Try.func12, Try.ntmps12
    go_wp2_with fail
    refine (unhide HZ _).mono ?_
    rintro e w1 ⟨rfl, rfl⟩
    go_wp2_with fail
    go_ret
    exact ⟨rfl, Below.refl _ _⟩
  have hle0 : n0 ≤ 1048576 := by omega
  have HZ0 : Hid (∀ W, Calls Try.prog 15 #[.slice A0 n0 c0, .int .i64 (1048576)] W fun e w' => e = .returned (.int .i64 (1048576 - (n0 : Int))) ∧ W = w') := by
    intro W
    have Z := szClockMarkS_any A0 n0 c0 (1048576) W (by omega) (by omega) hm0
    have hz : szI (1048576) n0 = 1048576 - (n0 : Int) := by unfold szI; rw [if_neg hbig0]
    rwa [hz] at Z
  by_cases hbig1 : 1048576 - (n0 : Int) - (n1 : Int) < 0
  · have hz : szI (1048576 - (n0 : Int)) n1 = -1 := by unfold szI; rw [if_pos hbig1]
    have Z := fun W => szClockMarkS_any A1 n1 c1 (1048576 - (n0 : Int)) W (by omega) (by omega) hm1
    rw [hz] at Z
    have HZ := hide Z
    clear Z hz hr0 hr1
    go_enter Try.func12, Try.ntmps12
    go_wp2_with fail
    refine (unhide HZ0 _).mono ?_
    rintro e wz ⟨rfl, rfl⟩
    go_wp2_with fail
    refine (unhide HZ _).mono ?_
    rintro e w1 ⟨rfl, rfl⟩
    go_wp2_with fail
    go_ret
    exact ⟨rfl, Below.refl _ _⟩
  have hle1 : n1 ≤ 1048576 := by omega
  have HZ1 : Hid (∀ W, Calls Try.prog 15 #[.slice A1 n1 c1, .int .i64 (1048576 - (n0 : Int))] W fun e w' => e = .returned (.int .i64 (1048576 - (n0 : Int) - (n1 : Int))) ∧ W = w') := by
    intro W
    have Z := szClockMarkS_any A1 n1 c1 (1048576 - (n0 : Int)) W (by omega) (by omega) hm1
    have hz : szI (1048576 - (n0 : Int)) n1 = 1048576 - (n0 : Int) - (n1 : Int) := by unfold szI; rw [if_neg hbig1]
    rwa [hz] at Z
  have hsum : n0 + n1 ≤ 1048576 := by omega
  obtain ⟨ys0, r1, HS, HI, HY0⟩ : ∃ (ys0 : List (Int × Int)) (r1 : Bool), Hid (∀ (W : World) (A0' : Option Addr) (n0' c0' : Nat) (A1' : Option Addr) (n1' c1' : Nat), n0' ≤ 1048576 → RP W W.heap.size A0' n0' xs0 → n1' ≤ 1048576 → RP W W.heap.size A1' n1' xs1 → Calls Try.prog 45 #[.slice A0' n0' c0', .slice A1' n1' c1'] W (RetMB W ys0 r1)) ∧ Hid (∀ (W : World) (A0' : Option Addr) (n0' c0' : Nat) (A1' : Option Addr) (n1' c1' : Nat), n0' ≤ 1048576 → RP W W.heap.size A0' n0' xs0 → n1' ≤ 1048576 → RP W W.heap.size A1' n1' xs1 → Calls Try.prog 46 #[.slice A0' n0' c0', .slice A1' n1' c1'] W (RetMB W ys0 r1)) ∧ Hid (ys0.length ≤ 2097152) :=
    ⟨_, _, fun W A0' n0' c0' A1' n1' c1' h0' g0' h1' g1' => specMerge_any A0' A1' n0' n1' c0' c1' xs0 xs1 W g0' g1' (by omega) (by omega), fun W A0' n0' c0' A1' n1' c1' h0' g0' h1' g1' => implMerge_any A0' A1' n0' n1' c0' c1' xs0 xs1 W g0' g1' (by omega) (by omega), mrgR_len _ _⟩
  have HR0 := hide hr0
  have HL0 := hide hr0.len
  clear hr0
  clear hbig0
  have HR1 := hide hr1
  have HL1 := hide hr1.len
  clear hr1
  clear hbig1
  have HB0 := hide (Below.refl w.heap.size w)
  go_enter Try.func12, Try.ntmps12
  go_wp2_with fail
  refine (unhide HZ0 _).mono ?_
  rintro e wz0 ⟨rfl, rfl⟩
  go_wp2_with fail
  refine (unhide HZ1 _).mono ?_
  rintro e wz1 ⟨rfl, rfl⟩
  go_wp2_with fail
  refine (toClockMarkS_any A0 n0 c0 xs0 _ (((unhide HR0).below (unhide HB0)).more (unhide HB0).size) hle0).mono ?_
  rintro e w1 ⟨A_p0, n_p0, c_p0, rfl, hO1, hb1⟩
  have hn_p0 : n_p0 ≤ 1048576 := by have := hO1.len; have := unhide HL0; omega
  have z1 := hb1.size
  have HB1 := hide ((unhide HB0).trans (hb1.mono (unhide HB0).size))
  clear hb1 HB0
  have Op0_1 := hide (ownR_of hO1)
  clear hO1
  go_wp2_with fail
  refine (toClockMarkS_any A1 n1 c1 xs1 _ (((unhide HR1).below (unhide HB1)).more (unhide HB1).size) hle1).mono ?_
  rintro e w2 ⟨A_p1, n_p1, c_p1, rfl, hO2, hb2⟩
  have hn_p1 : n_p1 ≤ 1048576 := by have := hO2.len; have := unhide HL1; omega
  have z2 := hb2.size
  have HB2 := hide ((unhide HB1).trans (hb2.mono (unhide HB1).size))
  have Op0_2 := hide ((unhide Op0_1).below hb2 (Nat.le_refl _))
  clear Op0_1
  clear hb2 HB1
  have Op1_2 := hide (ownR_of hO2)
  clear hO2
  go_wp2_with fail
  refine (unhide HS _ A_p0 n_p0 c_p0 A_p1 n_p1 c_p1 hn_p0 ((unhide Op0_2).rp) hn_p1 ((unhide Op1_2).rp)).mono ?_
  rintro e w3 ⟨A_w0, n_w0, c_w0, rfl, hO3_0, hb3⟩
  have hn_w0 : n_w0 ≤ 2097152 := by have := hO3_0.len; have := unhide HY0; omega
  have z3 := hb3.size
  have HB3 := hide ((unhide HB2).trans (hb3.mono (unhide HB2).size))
  have Op0_3 := hide ((unhide Op0_2).below hb3 (Nat.le_refl _))
  clear Op0_2
  have Op1_3 := hide ((unhide Op1_2).below hb3 (Nat.le_refl _))
  clear Op1_2
  clear hb3 HB2
  have Ow0_3 := hide (ownR_of hO3_0)
  clear hO3_0
  clear Op0_3
  clear Op1_3
  go_wp2_with fail
  refine (toClockMarkS_any A0 n0 c0 xs0 _ (((unhide HR0).below (unhide HB3)).more (unhide HB3).size) hle0).mono ?_
  rintro e w4 ⟨A_x0, n_x0, c_x0, rfl, hO4, hb4⟩
  have hn_x0 : n_x0 ≤ 1048576 := by have := hO4.len; have := unhide HL0; omega
  have z4 := hb4.size
  have HB4 := hide ((unhide HB3).trans (hb4.mono (unhide HB3).size))
  have Ow0_4 := hide ((unhide Ow0_3).below hb4 (Nat.le_refl _))
  clear Ow0_3
  clear hb4 HB3
  have Ox0_4 := hide (ownR_of hO4)
  clear hO4
  go_wp2_with fail
  refine (toClockMarkS_any A1 n1 c1 xs1 _ (((unhide HR1).below (unhide HB4)).more (unhide HB4).size) hle1).mono ?_
  rintro e w5 ⟨A_x1, n_x1, c_x1, rfl, hO5, hb5⟩
  have hn_x1 : n_x1 ≤ 1048576 := by have := hO5.len; have := unhide HL1; omega
  have z5 := hb5.size
  have HB5 := hide ((unhide HB4).trans (hb5.mono (unhide HB4).size))
  have Ow0_5 := hide ((unhide Ow0_4).below hb5 (Nat.le_refl _))
  clear Ow0_4
  have Ox0_5 := hide ((unhide Ox0_4).below hb5 (Nat.le_refl _))
  clear Ox0_4
  clear hb5 HB4
  have Ox1_5 := hide (ownR_of hO5)
  clear hO5
  go_wp2_with fail
  refine (unhide HI _ A_x0 n_x0 c_x0 A_x1 n_x1 c_x1 hn_x0 ((unhide Ox0_5).rp) hn_x1 ((unhide Ox1_5).rp)).mono ?_
  rintro e w6 ⟨A_g0, n_g0, c_g0, rfl, hO6_0, hb6⟩
  have hn_g0 : n_g0 ≤ 2097152 := by have := hO6_0.len; have := unhide HY0; omega
  have z6 := hb6.size
  have HB6 := hide ((unhide HB5).trans (hb6.mono (unhide HB5).size))
  have Ow0_6 := hide ((unhide Ow0_5).below hb6 (Nat.le_refl _))
  clear Ow0_5
  have Ox0_6 := hide ((unhide Ox0_5).below hb6 (Nat.le_refl _))
  clear Ox0_5
  have Ox1_6 := hide ((unhide Ox1_5).below hb6 (Nat.le_refl _))
  clear Ox1_5
  clear hb6 HB5
  have Og0_6 := hide (ownR_of hO6_0)
  clear hO6_0
  go_wp2_with fail
  refine (eqClockMarkS_any A_g0 A_w0 n_g0 n_w0 c_g0 c_w0 _ _ ys0 ys0 _ ((unhide Og0_6).rp) ((unhide Ow0_6).rp) (unhide Og0_6).max (unhide Ow0_6).max (Nat.le_refl _) (Nat.le_refl _)).mono ?_
  rintro e w7 ⟨rfl, hb7⟩
  have z7 := hb7.size
  have HB7 := hide ((unhide HB6).trans (hb7.mono (unhide HB6).size))
  have Ow0_7 := hide ((unhide Ow0_6).below hb7 (Nat.le_refl _))
  clear Ow0_6
  have Ox0_7 := hide ((unhide Ox0_6).below hb7 (Nat.le_refl _))
  clear Ox0_6
  have Ox1_7 := hide ((unhide Ox1_6).below hb7 (Nat.le_refl _))
  clear Ox1_6
  have Og0_7 := hide ((unhide Og0_6).below hb7 (Nat.le_refl _))
  clear Og0_6
  clear hb7 HB6
  go_wp2_with fail
  refine (toClockMarkS_any A0 n0 c0 xs0 _ (((unhide HR0).below (unhide HB7)).more (unhide HB7).size) hle0).mono ?_
  rintro e w8 ⟨A_y0, n_y0, c_y0, rfl, hO8, hb8⟩
  have hn_y0 : n_y0 ≤ 1048576 := by have := hO8.len; have := unhide HL0; omega
  have z8 := hb8.size
  have HB8 := hide ((unhide HB7).trans (hb8.mono (unhide HB7).size))
  have Ow0_8 := hide ((unhide Ow0_7).below hb8 (Nat.le_refl _))
  clear Ow0_7
  have Ox0_8 := hide ((unhide Ox0_7).below hb8 (Nat.le_refl _))
  clear Ox0_7
  have Ox1_8 := hide ((unhide Ox1_7).below hb8 (Nat.le_refl _))
  clear Ox1_7
  have Og0_8 := hide ((unhide Og0_7).below hb8 (Nat.le_refl _))
  clear Og0_7
  clear hb8 HB7
  have Oy0_8 := hide (ownR_of hO8)
  clear hO8
  go_wp2_with fail
  refine (eqClockMarkS_any A_x0 A_y0 n_x0 n_y0 c_x0 c_y0 _ _ xs0 xs0 _ ((unhide Ox0_8).rp) ((unhide Oy0_8).rp) (unhide Ox0_8).max (unhide Oy0_8).max (Nat.le_refl _) (Nat.le_refl _)).mono ?_
  rintro e w9 ⟨rfl, hb9⟩
  have z9 := hb9.size
  have HB9 := hide ((unhide HB8).trans (hb9.mono (unhide HB8).size))
  have Ow0_9 := hide ((unhide Ow0_8).below hb9 (Nat.le_refl _))
  clear Ow0_8
  have Ox0_9 := hide ((unhide Ox0_8).below hb9 (Nat.le_refl _))
  clear Ox0_8
  have Ox1_9 := hide ((unhide Ox1_8).below hb9 (Nat.le_refl _))
  clear Ox1_8
  have Og0_9 := hide ((unhide Og0_8).below hb9 (Nat.le_refl _))
  clear Og0_8
  have Oy0_9 := hide ((unhide Oy0_8).below hb9 (Nat.le_refl _))
  clear Oy0_8
  clear hb9 HB8
  clear Oy0_9
  go_wp2_with fail
  refine (toClockMarkS_any A1 n1 c1 xs1 _ (((unhide HR1).below (unhide HB9)).more (unhide HB9).size) hle1).mono ?_
  rintro e w10 ⟨A_y1, n_y1, c_y1, rfl, hO10, hb10⟩
  have hn_y1 : n_y1 ≤ 1048576 := by have := hO10.len; have := unhide HL1; omega
  have z10 := hb10.size
  have HB10 := hide ((unhide HB9).trans (hb10.mono (unhide HB9).size))
  have Ow0_10 := hide ((unhide Ow0_9).below hb10 (Nat.le_refl _))
  clear Ow0_9
  have Ox0_10 := hide ((unhide Ox0_9).below hb10 (Nat.le_refl _))
  clear Ox0_9
  have Ox1_10 := hide ((unhide Ox1_9).below hb10 (Nat.le_refl _))
  clear Ox1_9
  have Og0_10 := hide ((unhide Og0_9).below hb10 (Nat.le_refl _))
  clear Og0_9
  clear hb10 HB9
  have Oy1_10 := hide (ownR_of hO10)
  clear hO10
  go_wp2_with fail
  refine (eqClockMarkS_any A_x1 A_y1 n_x1 n_y1 c_x1 c_y1 _ _ xs1 xs1 _ ((unhide Ox1_10).rp) ((unhide Oy1_10).rp) (unhide Ox1_10).max (unhide Oy1_10).max (Nat.le_refl _) (Nat.le_refl _)).mono ?_
  rintro e w11 ⟨rfl, hb11⟩
  have z11 := hb11.size
  have HB11 := hide ((unhide HB10).trans (hb11.mono (unhide HB10).size))
  have Ow0_11 := hide ((unhide Ow0_10).below hb11 (Nat.le_refl _))
  clear Ow0_10
  have Ox0_11 := hide ((unhide Ox0_10).below hb11 (Nat.le_refl _))
  clear Ox0_10
  have Ox1_11 := hide ((unhide Ox1_10).below hb11 (Nat.le_refl _))
  clear Ox1_10
  have Og0_11 := hide ((unhide Og0_10).below hb11 (Nat.le_refl _))
  clear Og0_10
  have Oy1_11 := hide ((unhide Oy1_10).below hb11 (Nat.le_refl _))
  clear Oy1_10
  clear hb11 HB10
  clear Oy1_11
  go_wp2_with fail
  refine (markClockMarkS_any A_x0 n_x0 c_x0 _ xs0 _ _ (unhide Ox0_11).1 (by omega) (by omega) (by omega)).mono ?_
  rintro e w12 ⟨rfl, hO12, hg12⟩
  have z12 := hg12.size
  have HB12 := hide ((unhide Ox0_11).grown (unhide HB11) (by omega) (unhide HB11).size hg12)
  have Ow0_12 := hide ((unhide Ow0_11).kept hg12 (unhide Ox0_11) (by omega))
  clear Ow0_11
  have Ox1_12 := hide ((unhide Ox1_11).kept hg12 (unhide Ox0_11) (by omega))
  clear Ox1_11
  have Og0_12 := hide ((unhide Og0_11).kept hg12 (unhide Ox0_11) (by omega))
  clear Og0_11
  clear hg12 HB11
  have Ox0_12 : Hid (OwnR _ _ _ _ _ _ _ _ _) := ⟨hO12, (unhide Ox0_11).2⟩
  clear Ox0_11 hO12
  go_wp2_with fail
  refine (markClockMarkS_any A_x1 n_x1 c_x1 _ xs1 _ _ (unhide Ox1_12).1 (by omega) (by omega) (by omega)).mono ?_
  rintro e w13 ⟨rfl, hO13, hg13⟩
  have z13 := hg13.size
  have HB13 := hide ((unhide Ox1_12).grown (unhide HB12) (by omega) (unhide HB12).size hg13)
  have Ow0_13 := hide ((unhide Ow0_12).kept hg13 (unhide Ox1_12) (by omega))
  clear Ow0_12
  have Ox0_13 := hide ((unhide Ox0_12).kept hg13 (unhide Ox1_12) (by omega))
  clear Ox0_12
  have Og0_13 := hide ((unhide Og0_12).kept hg13 (unhide Ox1_12) (by omega))
  clear Og0_12
  clear hg13 HB12
  have Ox1_13 : Hid (OwnR _ _ _ _ _ _ _ _ _) := ⟨hO13, (unhide Ox1_12).2⟩
  clear Ox1_12 hO13
  go_wp2_with fail
  refine (eqClockMarkS_any A_g0 A_w0 n_g0 n_w0 c_g0 c_w0 _ _ ys0 ys0 _ ((unhide Og0_13).rp) ((unhide Ow0_13).rp) (unhide Og0_13).max (unhide Ow0_13).max (Nat.le_refl _) (Nat.le_refl _)).mono ?_
  rintro e w14 ⟨rfl, hb14⟩
  have z14 := hb14.size
  have HB14 := hide ((unhide HB13).trans (hb14.mono (unhide HB13).size))
  have Ow0_14 := hide ((unhide Ow0_13).below hb14 (Nat.le_refl _))
  clear Ow0_13
  have Ox0_14 := hide ((unhide Ox0_13).below hb14 (Nat.le_refl _))
  clear Ox0_13
  have Ox1_14 := hide ((unhide Ox1_13).below hb14 (Nat.le_refl _))
  clear Ox1_13
  have Og0_14 := hide ((unhide Og0_13).below hb14 (Nat.le_refl _))
  clear Og0_13
  clear hb14 HB13
  clear Ox0_14
  clear Ox1_14
  go_wp2_with fail
  refine (markClockMarkS_any A_g0 n_g0 c_g0 _ ys0 _ _ (unhide Og0_14).1 (by omega) (by omega) (by omega)).mono ?_
  rintro e w15 ⟨rfl, hO15, hg15⟩
  have z15 := hg15.size
  have HB15 := hide ((unhide Og0_14).grown (unhide HB14) (by omega) (unhide HB14).size hg15)
  have Ow0_15 := hide ((unhide Ow0_14).kept hg15 (unhide Og0_14) (by omega))
  clear Ow0_14
  clear hg15 HB14
  have Og0_15 : Hid (OwnR _ _ _ _ _ _ _ _ _) := ⟨hO15, (unhide Og0_14).2⟩
  clear Og0_14 hO15
  go_wp2_with fail
  refine (heldClockMarkS_any A_g0 n_g0 c_g0 _ _ _ ((unhide Og0_15).rp) (by omega) (by omega) (by omega)).mono ?_
  rintro e wq ⟨rfl, rfl⟩
  go_wp2_with fail
  refine (toClockMarkS_any A0 n0 c0 xs0 _ (((unhide HR0).below (unhide HB15)).more (unhide HB15).size) hle0).mono ?_
  rintro e w16 ⟨A_q0, n_q0, c_q0, rfl, hO16, hb16⟩
  have hn_q0 : n_q0 ≤ 1048576 := by have := hO16.len; have := unhide HL0; omega
  have z16 := hb16.size
  have HB16 := hide ((unhide HB15).trans (hb16.mono (unhide HB15).size))
  have Ow0_16 := hide ((unhide Ow0_15).below hb16 (Nat.le_refl _))
  clear Ow0_15
  have Og0_16 := hide ((unhide Og0_15).below hb16 (Nat.le_refl _))
  clear Og0_15
  clear hb16 HB15
  have Oq0_16 := hide (ownR_of hO16)
  clear hO16
  go_wp2_with fail
  refine (toClockMarkS_any A1 n1 c1 xs1 _ (((unhide HR1).below (unhide HB16)).more (unhide HB16).size) hle1).mono ?_
  rintro e w17 ⟨A_q1, n_q1, c_q1, rfl, hO17, hb17⟩
  have hn_q1 : n_q1 ≤ 1048576 := by have := hO17.len; have := unhide HL1; omega
  have z17 := hb17.size
  have HB17 := hide ((unhide HB16).trans (hb17.mono (unhide HB16).size))
  have Ow0_17 := hide ((unhide Ow0_16).below hb17 (Nat.le_refl _))
  clear Ow0_16
  have Og0_17 := hide ((unhide Og0_16).below hb17 (Nat.le_refl _))
  clear Og0_16
  have Oq0_17 := hide ((unhide Oq0_16).below hb17 (Nat.le_refl _))
  clear Oq0_16
  clear hb17 HB16
  have Oq1_17 := hide (ownR_of hO17)
  clear hO17
  go_wp2_with fail
  refine (unhide HI _ A_q0 n_q0 c_q0 A_q1 n_q1 c_q1 hn_q0 ((unhide Oq0_17).rp) hn_q1 ((unhide Oq1_17).rp)).mono ?_
  rintro e w18 ⟨A_h0, n_h0, c_h0, rfl, hO18_0, hb18⟩
  have hn_h0 : n_h0 ≤ 2097152 := by have := hO18_0.len; have := unhide HY0; omega
  have z18 := hb18.size
  have HB18 := hide ((unhide HB17).trans (hb18.mono (unhide HB17).size))
  have Ow0_18 := hide ((unhide Ow0_17).below hb18 (Nat.le_refl _))
  clear Ow0_17
  have Og0_18 := hide ((unhide Og0_17).below hb18 (Nat.le_refl _))
  clear Og0_17
  have Oq0_18 := hide ((unhide Oq0_17).below hb18 (Nat.le_refl _))
  clear Oq0_17
  have Oq1_18 := hide ((unhide Oq1_17).below hb18 (Nat.le_refl _))
  clear Oq1_17
  clear hb18 HB17
  have Oh0_18 := hide (ownR_of hO18_0)
  clear hO18_0
  clear Oq0_18
  clear Oq1_18
  go_wp2_with fail
  refine (eqClockMarkS_any A_h0 A_w0 n_h0 n_w0 c_h0 c_w0 _ _ ys0 ys0 _ ((unhide Oh0_18).rp) ((unhide Ow0_18).rp) (unhide Oh0_18).max (unhide Ow0_18).max (Nat.le_refl _) (Nat.le_refl _)).mono ?_
  rintro e w19 ⟨rfl, hb19⟩
  have z19 := hb19.size
  have HB19 := hide ((unhide HB18).trans (hb19.mono (unhide HB18).size))
  have Ow0_19 := hide ((unhide Ow0_18).below hb19 (Nat.le_refl _))
  clear Ow0_18
  have Og0_19 := hide ((unhide Og0_18).below hb19 (Nat.le_refl _))
  clear Og0_18
  have Oh0_19 := hide ((unhide Oh0_18).below hb19 (Nat.le_refl _))
  clear Oh0_18
  clear hb19 HB18
  go_wp2_with fail
  refine (heldClockMarkS_any A_g0 n_g0 c_g0 _ _ _ ((unhide Og0_19).rp) (by omega) (by omega) (by omega)).mono ?_
  rintro e wq ⟨rfl, rfl⟩
  go_wp2_with fail
  go_ret
  exact ⟨rfl, unhide HB19⟩
end Go.Proofs.Ytmpgafanlgnpeaa
