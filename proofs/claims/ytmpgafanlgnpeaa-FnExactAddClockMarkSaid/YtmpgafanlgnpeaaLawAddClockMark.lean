/- The walk of the law FnExactAddClockMark: it says true, at every input; what was there stays as it was. By gen_law3.py. -/
import Derived.Test.YtmpgafanlgnpeaaProg
import Derived.Test.YtmpgafanlgnpeaaAddB
namespace Go.Proofs.Ytmpgafanlgnpeaa
open Go.RowKit
set_option linter.unusedVariables false

set_option maxHeartbeats 4000000 in
set_option maxRecDepth 100000 in
theorem law_AddClockMark (A0 : Option Addr) (n0 c0 : Nat) (xs0 : List (Int × Int)) (a1 b1 : Int) (w : World) (hr0 : RP w w.heap.size A0 n0 xs0) (hm0 : n0 ≤ 9223372036854775807) :
    Calls Try.prog 8 #[.slice A0 n0 c0, .agg #[.int .i64 a1, .int .i64 b1]] w fun e w' => e = .returned (.bool true) ∧ Below w.heap.size w w' := by
  by_cases hbig0 : 1048576 - (n0 : Int) < 0
  · have hz : szI (1048576) n0 = -1 := by unfold szI; rw [if_pos hbig0]
    have Z := fun W => szClockMarkS_any A0 n0 c0 (1048576) W (by omega) (by omega) hm0
    rw [hz] at Z
    have HZ := hide Z
    clear Z hz hr0
    go_enter Try.func8, Try.ntmps8
    go_wp2_with fail
    refine (unhide HZ _).mono ?_
    rintro e w1 ⟨rfl, rfl⟩
    go_wp2_with fail
    go_ret
    exact ⟨rfl, (Below.refl _ _).alloc (Nat.le_refl _) _⟩
  have hle0 : n0 ≤ 1048576 := by omega
  have HZ0 : Hid (∀ W, Calls Try.prog 15 #[.slice A0 n0 c0, .int .i64 (1048576)] W fun e w' => e = .returned (.int .i64 (1048576 - (n0 : Int))) ∧ W = w') := by
    intro W
    have Z := szClockMarkS_any A0 n0 c0 (1048576) W (by omega) (by omega) hm0
    have hz : szI (1048576) n0 = 1048576 - (n0 : Int) := by unfold szI; rw [if_neg hbig0]
    rwa [hz] at Z
  obtain ⟨ys0, r1, HS, HI, HY0⟩ : ∃ (ys0 : List (Int × Int)) (r1 : Bool), Hid (∀ (W : World) (A0' : Option Addr) (n0' c0' : Nat), n0' ≤ 1048576 → n0' ≤ c0' → c0' ≤ 9223372036854775807 → RP W W.heap.size A0' n0' xs0 → Calls Try.prog 32 #[.slice A0' n0' c0', .agg #[.int .i64 a1, .int .i64 b1]] W (RetMB W ys0 r1)) ∧ Hid (∀ (W : World) (A0' : Option Addr) (n0' c0' : Nat), n0' ≤ 1048576 → n0' ≤ c0' → c0' ≤ 9223372036854775807 → RP W W.heap.size A0' n0' xs0 → Calls Try.prog 34 #[.slice A0' n0' c0', .agg #[.int .i64 a1, .int .i64 b1]] W (RetMB W ys0 r1)) ∧ Hid (ys0.length ≤ 2097152) :=
    ⟨_, _, fun W A0' n0' c0' h0' q0' m0' g0' => specAdd_any A0' n0' c0' xs0 a1 b1 W g0' (by omega) q0' m0', fun W A0' n0' c0' h0' q0' m0' g0' => implAdd_any A0' n0' c0' xs0 a1 b1 W g0' (by omega), addR_len _ _⟩
  have HR0 := hide hr0
  have HL0 := hide hr0.len
  clear hr0
  clear hbig0
  go_enter Try.func8, Try.ntmps8
  go_wp2_with fail
  have HBOX : Hid (Whl (w.alloc (.cells #[.int .i64 a1, .int .i64 b1] 40)) w.heap.size 40 #[.int .i64 a1, .int .i64 b1]) := Whl.here w _ _
  have HBW : Hid (Below w.heap.size w (w.alloc (.cells #[.int .i64 a1, .int .i64 b1] 40))) := (Below.refl _ w).alloc (Nat.le_refl _) _
  generalize (w.alloc (.cells #[.int .i64 a1, .int .i64 b1] 40)) = w0 at HBOX HBW ⊢
  have hbx := (unhide HBOX).lt
  have HRn0 := hide (((unhide HR0).below (unhide HBW)).more (unhide HBW).size)
  clear HR0
  have HR0 := HRn0
  clear HRn0
  have HB0 := hide (Below.refl w0.heap.size w0)
  go_wp2_with fail
  refine (unhide HZ0 _).mono ?_
  rintro e wz0 ⟨rfl, rfl⟩
  have kb0 : w0.cell? ⟨w.heap.size, 0, none⟩ = some (.int .i64 a1) := ((unhide HB0).cell (p := ⟨w.heap.size, 0, none⟩) hbx).trans ((unhide HBOX).cell 0)
  have kb1 : w0.cell? ⟨w.heap.size, 1, none⟩ = some (.int .i64 b1) := ((unhide HB0).cell (p := ⟨w.heap.size, 1, none⟩) hbx).trans ((unhide HBOX).cell 1)
  go_wp2_with fail
  have SIX := hide (fun (W : World) (hb : Below w0.heap.size w0 W) => (⟨(hb.cell (p := ⟨w.heap.size, 0, none⟩) (Nat.lt_of_lt_of_le hbx (unhide HB0).size)).trans kb0, (hb.cell (p := ⟨w.heap.size, 1, none⟩) (Nat.lt_of_lt_of_le hbx (unhide HB0).size)).trans kb1⟩ : W.cell? ⟨w.heap.size, 0, none⟩ = some (.int .i64 a1) ∧ W.cell? ⟨w.heap.size, 1, none⟩ = some (.int .i64 b1)))
  have HRs := hide (fun (W : World) (hb : Below w0.heap.size w0 W) => ((unhide HR0).below (below_next (unhide HB0) hb)).more (below_next (unhide HB0) hb).size)
  go_cut [6, 7] (fun s6 s7 wx => ∃ (A_ : Option Addr) (n_ c_ : Nat), s6 = .slice A_ n_ c_ ∧ s7 = .bool r1 ∧ Hid (OwnP wx w0.heap.size 43 A_ n_ c_ ys0) ∧ Hid (Below w0.heap.size w0 wx))
  case first =>
    go_region_held3 (fun w' => w'.cell? ⟨w.heap.size, 0, none⟩ = some (.int .i64 a1) ∧ w'.cell? ⟨w.heap.size, 1, none⟩ = some (.int .i64 b1))
      (((with_reducible refine unhide SIX _ ?_); (repeat (first | with_reducible exact unhide HBt2 | with_reducible exact unhide HBt1 | with_reducible exact unhide HBt0 | with_reducible exact Below.refl _ _ | with_reducible refine Below.drew ?_))))
      (first
        | (go_at_call 17; refine (toClockMarkS_any A0 n0 c0 xs0 _ (unhide HRs _ ?_) hle0).mono ?_; (focus (repeat (first | with_reducible exact unhide HBt2 | with_reducible exact unhide HBt1 | with_reducible exact unhide HBt0 | with_reducible exact Below.refl _ _ | with_reducible refine Below.drew ?_))); rintro e wt0 ⟨At0, nt0, ct0, rfl, hOt, hbt⟩; have HBt0 : Hid (Below w0.heap.size w0 wt0) := hide (below_next (by repeat (first | with_reducible exact unhide HBt2 | with_reducible exact unhide HBt1 | with_reducible exact unhide HBt0 | with_reducible exact Below.refl _ _ | with_reducible refine Below.drew ?_)) hbt); have hnt0 : nt0 ≤ 1048576 := (by have := hOt.len; have := unhide HL0; omega); have hct0 := ownR_cap (ownR_of hOt); have hcx0 := ownR_cmx (ownR_of hOt); have HOt0 := hide hOt; have HQ0 := hide (fun (W : World) (hb : Below wt0.heap.size wt0 W) => ((unhide HOt0).rp.below hb).more hb.size); clear hOt hbt)
        | (go_at_call 33; refine (toClockMark_any a1 b1 _).mono ?_; rintro e wt1 ⟨rfl, hbt⟩; (first | (have HC01 : Hid (Below wt0.heap.size wt0 wt1) := (by with_reducible exact hide (Below.drew_next hbt))) | (have HC01 : Hid (Below wt0.heap.size wt0 wt1) := (by with_reducible exact hide hbt)) | skip); have HBt1 : Hid (Below w0.heap.size w0 wt1) := hide (below_next (by repeat (first | with_reducible exact unhide HBt2 | with_reducible exact unhide HBt1 | with_reducible exact unhide HBt0 | with_reducible exact Below.refl _ _ | with_reducible refine Below.drew ?_)) hbt); clear hbt)
        | (go_at_call 32; refine (unhide HS _ At0 nt0 ct0 hnt0 hct0 hcx0 (unhide HQ0 _ ?_)).mono ?_; (focus (repeat (first | with_reducible exact unhide HC01 | with_reducible exact Below.refl _ _ | with_reducible refine Below.drew ?_))); rintro e wt2 ⟨A_, n_, c_, rfl, hOt, hbt⟩; have HBt2 : Hid (Below w0.heap.size w0 wt2) := hide (below_next (by repeat (first | with_reducible exact unhide HBt2 | with_reducible exact unhide HBt1 | with_reducible exact unhide HBt0 | with_reducible exact Below.refl _ _ | with_reducible refine Below.drew ?_)) hbt); have HOt2 := hide (OwnP.less hOt (unhide HBt1).size); clear hOt hbt))
    all_goals
      go_wp2_with fail
      go_meet
      exact ⟨A_, n_, c_, rfl, rfl, OwnP.less (unhide HOt2) (Nat.le_refl _), unhide HBt2⟩
  case rest =>
    obtain ⟨A_w0, n_w0, c_w0, rfl, rfl, hO, hB⟩ := hcut
    generalize wc = w1 at *
    have hn_w0 : n_w0 ≤ 2097152 := by have := (unhide hO).len; have := unhide HY0; omega
    have hb1 := unhide hB
    have hO1_0 := unhide hO
    clear SIX HRs hB hO kb0 kb1
    have z1 := hb1.size
    have HB1 := hide ((unhide HB0).trans (hb1.mono (unhide HB0).size))
    clear hb1 HB0
    have Ow0_1 := hide (ownR_of hO1_0)
    clear hO1_0
    go_wp2_with fail
    refine (toClockMarkS_any A0 n0 c0 xs0 _ (((unhide HR0).below (unhide HB1)).more (unhide HB1).size) hle0).mono ?_
    rintro e w2 ⟨A_x0, n_x0, c_x0, rfl, hO2, hb2⟩
    have hn_x0 : n_x0 ≤ 1048576 := by have := hO2.len; have := unhide HL0; omega
    have z2 := hb2.size
    have HB2 := hide ((unhide HB1).trans (hb2.mono (unhide HB1).size))
    have Ow0_2 := hide ((unhide Ow0_1).below hb2 (Nat.le_refl _))
    clear Ow0_1
    clear hb2 HB1
    have Ox0_2 := hide (ownR_of hO2)
    clear hO2
    have kb0 : w2.cell? ⟨w.heap.size, 0, none⟩ = some (.int .i64 a1) := ((unhide HB2).cell (p := ⟨w.heap.size, 0, none⟩) hbx).trans ((unhide HBOX).cell 0)
    have kb1 : w2.cell? ⟨w.heap.size, 1, none⟩ = some (.int .i64 b1) := ((unhide HB2).cell (p := ⟨w.heap.size, 1, none⟩) hbx).trans ((unhide HBOX).cell 1)
    go_wp2_with fail
    clear kb0 kb1
    refine (toClockMark_any a1 b1 _).mono ?_
    rintro e w3 ⟨rfl, hb3⟩
    have z3 := hb3.size
    have HB3 := hide ((unhide HB2).trans (hb3.mono (unhide HB2).size))
    have Ow0_3 := hide ((unhide Ow0_2).below hb3 (Nat.le_refl _))
    clear Ow0_2
    have Ox0_3 := hide ((unhide Ox0_2).below hb3 (Nat.le_refl _))
    clear Ox0_2
    clear hb3 HB2
    go_wp2_with fail
    refine (unhide HI _ A_x0 n_x0 c_x0 hn_x0 (ownR_cap (unhide Ox0_3)) (ownR_cmx (unhide Ox0_3)) ((unhide Ox0_3).rp)).mono ?_
    rintro e w4 ⟨A_g0, n_g0, c_g0, rfl, hO4_0, hb4⟩
    have hn_g0 : n_g0 ≤ 2097152 := by have := hO4_0.len; have := unhide HY0; omega
    have z4 := hb4.size
    have HB4 := hide ((unhide HB3).trans (hb4.mono (unhide HB3).size))
    have Ow0_4 := hide ((unhide Ow0_3).below hb4 (Nat.le_refl _))
    clear Ow0_3
    have Ox0_4 := hide ((unhide Ox0_3).below hb4 (Nat.le_refl _))
    clear Ox0_3
    clear hb4 HB3
    have Og0_4 := hide (ownR_of hO4_0)
    clear hO4_0
    go_wp2_with fail
    refine (eqClockMarkS_any A_g0 A_w0 n_g0 n_w0 c_g0 c_w0 _ _ ys0 ys0 _ ((unhide Og0_4).rp) ((unhide Ow0_4).rp) (unhide Og0_4).max (unhide Ow0_4).max (Nat.le_refl _) (Nat.le_refl _)).mono ?_
    rintro e w5 ⟨rfl, hb5⟩
    have z5 := hb5.size
    have HB5 := hide ((unhide HB4).trans (hb5.mono (unhide HB4).size))
    have Ow0_5 := hide ((unhide Ow0_4).below hb5 (Nat.le_refl _))
    clear Ow0_4
    have Ox0_5 := hide ((unhide Ox0_4).below hb5 (Nat.le_refl _))
    clear Ox0_4
    have Og0_5 := hide ((unhide Og0_4).below hb5 (Nat.le_refl _))
    clear Og0_4
    clear hb5 HB4
    go_wp2_with fail
    refine (toClockMarkS_any A0 n0 c0 xs0 _ (((unhide HR0).below (unhide HB5)).more (unhide HB5).size) hle0).mono ?_
    rintro e w6 ⟨A_y0, n_y0, c_y0, rfl, hO6, hb6⟩
    have hn_y0 : n_y0 ≤ 1048576 := by have := hO6.len; have := unhide HL0; omega
    have z6 := hb6.size
    have HB6 := hide ((unhide HB5).trans (hb6.mono (unhide HB5).size))
    have Ow0_6 := hide ((unhide Ow0_5).below hb6 (Nat.le_refl _))
    clear Ow0_5
    have Ox0_6 := hide ((unhide Ox0_5).below hb6 (Nat.le_refl _))
    clear Ox0_5
    have Og0_6 := hide ((unhide Og0_5).below hb6 (Nat.le_refl _))
    clear Og0_5
    clear hb6 HB5
    have Oy0_6 := hide (ownR_of hO6)
    clear hO6
    go_wp2_with fail
    refine (eqClockMarkS_any A_x0 A_y0 n_x0 n_y0 c_x0 c_y0 _ _ xs0 xs0 _ ((unhide Ox0_6).rp) ((unhide Oy0_6).rp) (unhide Ox0_6).max (unhide Oy0_6).max (Nat.le_refl _) (Nat.le_refl _)).mono ?_
    rintro e w7 ⟨rfl, hb7⟩
    have z7 := hb7.size
    have HB7 := hide ((unhide HB6).trans (hb7.mono (unhide HB6).size))
    have Ow0_7 := hide ((unhide Ow0_6).below hb7 (Nat.le_refl _))
    clear Ow0_6
    have Ox0_7 := hide ((unhide Ox0_6).below hb7 (Nat.le_refl _))
    clear Ox0_6
    have Og0_7 := hide ((unhide Og0_6).below hb7 (Nat.le_refl _))
    clear Og0_6
    have Oy0_7 := hide ((unhide Oy0_6).below hb7 (Nat.le_refl _))
    clear Oy0_6
    clear hb7 HB6
    clear Oy0_7
    go_wp2_with fail
    refine (markClockMarkS_any A_x0 n_x0 c_x0 _ xs0 _ _ (unhide Ox0_7).1 (by omega) (by omega) (by omega)).mono ?_
    rintro e w8 ⟨rfl, hO8, hg8⟩
    have z8 := hg8.size
    have HB8 := hide ((unhide Ox0_7).grown (unhide HB7) (by omega) (unhide HB7).size hg8)
    have Ow0_8 := hide ((unhide Ow0_7).kept hg8 (unhide Ox0_7) (by omega))
    clear Ow0_7
    have Og0_8 := hide ((unhide Og0_7).kept hg8 (unhide Ox0_7) (by omega))
    clear Og0_7
    clear hg8 HB7
    have Ox0_8 : Hid (OwnR _ _ _ _ _ _ _ _ _) := ⟨hO8, (unhide Ox0_7).2⟩
    clear Ox0_7 hO8
    go_wp2_with fail
    refine (eqClockMarkS_any A_g0 A_w0 n_g0 n_w0 c_g0 c_w0 _ _ ys0 ys0 _ ((unhide Og0_8).rp) ((unhide Ow0_8).rp) (unhide Og0_8).max (unhide Ow0_8).max (Nat.le_refl _) (Nat.le_refl _)).mono ?_
    rintro e w9 ⟨rfl, hb9⟩
    have z9 := hb9.size
    have HB9 := hide ((unhide HB8).trans (hb9.mono (unhide HB8).size))
    have Ow0_9 := hide ((unhide Ow0_8).below hb9 (Nat.le_refl _))
    clear Ow0_8
    have Ox0_9 := hide ((unhide Ox0_8).below hb9 (Nat.le_refl _))
    clear Ox0_8
    have Og0_9 := hide ((unhide Og0_8).below hb9 (Nat.le_refl _))
    clear Og0_8
    clear hb9 HB8
    clear Ox0_9
    go_wp2_with fail
    refine (markClockMarkS_any A_g0 n_g0 c_g0 _ ys0 _ _ (unhide Og0_9).1 (by omega) (by omega) (by omega)).mono ?_
    rintro e w10 ⟨rfl, hO10, hg10⟩
    have z10 := hg10.size
    have HB10 := hide ((unhide Og0_9).grown (unhide HB9) (by omega) (unhide HB9).size hg10)
    have Ow0_10 := hide ((unhide Ow0_9).kept hg10 (unhide Og0_9) (by omega))
    clear Ow0_9
    clear hg10 HB9
    have Og0_10 : Hid (OwnR _ _ _ _ _ _ _ _ _) := ⟨hO10, (unhide Og0_9).2⟩
    clear Og0_9 hO10
    go_wp2_with fail
    refine (heldClockMarkS_any A_g0 n_g0 c_g0 _ _ _ ((unhide Og0_10).rp) (by omega) (by omega) (by omega)).mono ?_
    rintro e wq ⟨rfl, rfl⟩
    have kb0 : w10.cell? ⟨w.heap.size, 0, none⟩ = some (.int .i64 a1) := ((unhide HB10).cell (p := ⟨w.heap.size, 0, none⟩) hbx).trans ((unhide HBOX).cell 0)
    have kb1 : w10.cell? ⟨w.heap.size, 1, none⟩ = some (.int .i64 b1) := ((unhide HB10).cell (p := ⟨w.heap.size, 1, none⟩) hbx).trans ((unhide HBOX).cell 1)
    go_wp2_with fail
    have SIX := hide (fun (W : World) (hb : Below w10.heap.size w10 W) => (⟨(hb.cell (p := ⟨w.heap.size, 0, none⟩) (Nat.lt_of_lt_of_le hbx (unhide HB10).size)).trans kb0, (hb.cell (p := ⟨w.heap.size, 1, none⟩) (Nat.lt_of_lt_of_le hbx (unhide HB10).size)).trans kb1⟩ : W.cell? ⟨w.heap.size, 0, none⟩ = some (.int .i64 a1) ∧ W.cell? ⟨w.heap.size, 1, none⟩ = some (.int .i64 b1)))
    have HRs := hide (fun (W : World) (hb : Below w10.heap.size w10 W) => ((unhide HR0).below (below_next (unhide HB10) hb)).more (below_next (unhide HB10) hb).size)
    go_cut [14, 15] (fun s6 s7 wx => ∃ (A_ : Option Addr) (n_ c_ : Nat), s6 = .slice A_ n_ c_ ∧ s7 = .bool r1 ∧ Hid (OwnP wx w10.heap.size 43 A_ n_ c_ ys0) ∧ Hid (Below w10.heap.size w10 wx))
    case first =>
      go_region_held3 (fun w' => w'.cell? ⟨w.heap.size, 0, none⟩ = some (.int .i64 a1) ∧ w'.cell? ⟨w.heap.size, 1, none⟩ = some (.int .i64 b1))
        (((with_reducible refine unhide SIX _ ?_); (repeat (first | with_reducible exact unhide HBt2 | with_reducible exact unhide HBt1 | with_reducible exact unhide HBt0 | with_reducible exact Below.refl _ _ | with_reducible refine Below.drew ?_))))
        (first
          | (go_at_call 17; refine (toClockMarkS_any A0 n0 c0 xs0 _ (unhide HRs _ ?_) hle0).mono ?_; (focus (repeat (first | with_reducible exact unhide HBt2 | with_reducible exact unhide HBt1 | with_reducible exact unhide HBt0 | with_reducible exact Below.refl _ _ | with_reducible refine Below.drew ?_))); rintro e wt0 ⟨At0, nt0, ct0, rfl, hOt, hbt⟩; have HBt0 : Hid (Below w10.heap.size w10 wt0) := hide (below_next (by repeat (first | with_reducible exact unhide HBt2 | with_reducible exact unhide HBt1 | with_reducible exact unhide HBt0 | with_reducible exact Below.refl _ _ | with_reducible refine Below.drew ?_)) hbt); have hnt0 : nt0 ≤ 1048576 := (by have := hOt.len; have := unhide HL0; omega); have hct0 := ownR_cap (ownR_of hOt); have hcx0 := ownR_cmx (ownR_of hOt); have HOt0 := hide hOt; have HQ0 := hide (fun (W : World) (hb : Below wt0.heap.size wt0 W) => ((unhide HOt0).rp.below hb).more hb.size); clear hOt hbt)
          | (go_at_call 33; refine (toClockMark_any a1 b1 _).mono ?_; rintro e wt1 ⟨rfl, hbt⟩; (first | (have HC01 : Hid (Below wt0.heap.size wt0 wt1) := (by with_reducible exact hide (Below.drew_next hbt))) | (have HC01 : Hid (Below wt0.heap.size wt0 wt1) := (by with_reducible exact hide hbt)) | skip); have HBt1 : Hid (Below w10.heap.size w10 wt1) := hide (below_next (by repeat (first | with_reducible exact unhide HBt2 | with_reducible exact unhide HBt1 | with_reducible exact unhide HBt0 | with_reducible exact Below.refl _ _ | with_reducible refine Below.drew ?_)) hbt); clear hbt)
          | (go_at_call 34; refine (unhide HI _ At0 nt0 ct0 hnt0 hct0 hcx0 (unhide HQ0 _ ?_)).mono ?_; (focus (repeat (first | with_reducible exact unhide HC01 | with_reducible exact Below.refl _ _ | with_reducible refine Below.drew ?_))); rintro e wt2 ⟨A_, n_, c_, rfl, hOt, hbt⟩; have HBt2 : Hid (Below w10.heap.size w10 wt2) := hide (below_next (by repeat (first | with_reducible exact unhide HBt2 | with_reducible exact unhide HBt1 | with_reducible exact unhide HBt0 | with_reducible exact Below.refl _ _ | with_reducible refine Below.drew ?_)) hbt); have HOt2 := hide (OwnP.less hOt (unhide HBt1).size); clear hOt hbt))
      all_goals
        go_wp2_with fail
        go_meet
        exact ⟨A_, n_, c_, rfl, rfl, OwnP.less (unhide HOt2) (Nat.le_refl _), unhide HBt2⟩
    case rest =>
      obtain ⟨A_h0, n_h0, c_h0, rfl, rfl, hO, hB⟩ := hcut
      generalize wc = w11 at *
      have hn_h0 : n_h0 ≤ 2097152 := by have := (unhide hO).len; have := unhide HY0; omega
      have hb11 := unhide hB
      have hO11_0 := unhide hO
      clear SIX HRs hB hO kb0 kb1
      have z11 := hb11.size
      have HB11 := hide ((unhide HB10).trans (hb11.mono (unhide HB10).size))
      have Ow0_11 := hide ((unhide Ow0_10).below hb11 (Nat.le_refl _))
      clear Ow0_10
      have Og0_11 := hide ((unhide Og0_10).below hb11 (Nat.le_refl _))
      clear Og0_10
      clear hb11 HB10
      have Oh0_11 := hide (ownR_of hO11_0)
      clear hO11_0
      go_wp2_with fail
      refine (eqClockMarkS_any A_h0 A_w0 n_h0 n_w0 c_h0 c_w0 _ _ ys0 ys0 _ ((unhide Oh0_11).rp) ((unhide Ow0_11).rp) (unhide Oh0_11).max (unhide Ow0_11).max (Nat.le_refl _) (Nat.le_refl _)).mono ?_
      rintro e w12 ⟨rfl, hb12⟩
      have z12 := hb12.size
      have HB12 := hide ((unhide HB11).trans (hb12.mono (unhide HB11).size))
      have Ow0_12 := hide ((unhide Ow0_11).below hb12 (Nat.le_refl _))
      clear Ow0_11
      have Og0_12 := hide ((unhide Og0_11).below hb12 (Nat.le_refl _))
      clear Og0_11
      have Oh0_12 := hide ((unhide Oh0_11).below hb12 (Nat.le_refl _))
      clear Oh0_11
      clear hb12 HB11
      go_wp2_with fail
      refine (heldClockMarkS_any A_g0 n_g0 c_g0 _ _ _ ((unhide Og0_12).rp) (by omega) (by omega) (by omega)).mono ?_
      rintro e wq ⟨rfl, rfl⟩
      go_wp2_with fail
      go_ret
      exact ⟨rfl, below_next (unhide HBW) (unhide HB12)⟩
end Go.Proofs.Ytmpgafanlgnpeaa
