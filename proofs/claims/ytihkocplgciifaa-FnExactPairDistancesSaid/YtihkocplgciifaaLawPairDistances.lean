/- The walk of the law FnExactPairDistances: it says true, at every input; what was there stays as it was. By gen_law3.py. -/
import Derived.Test.YtihkocplgciifaaProg
import Derived.Test.YtihkocplgciifaaPairS
import Derived.Test.YtihkocplgciifaaRowLaw
import Derived.Test.YtihkocplgciifaaMarkS
namespace Go.Proofs.Ytihkocplgciifaa
open Go.RowKit
set_option linter.unusedVariables false

theorem ownR_cap {w : World} {lo hi k n c : Nat} {E : TypeId} {A : Option Addr} {cs : List Value} (h : OwnR w lo hi E k A n c cs) : n ≤ c := by
  rcases h.1.2 with ⟨hv, h0⟩ | ⟨g, cap, cur, hv, hg, hh, hle, hm, _⟩
  · omega
  · injection hv with _ _ h3
    omega
theorem ownR_cmx {w : World} {lo hi k n c : Nat} {E : TypeId} {A : Option Addr} {cs : List Value} (h : OwnR w lo hi E k A n c cs) : c ≤ 9223372036854775807 := by
  rcases h.1.2 with ⟨hv, h0⟩ | ⟨g, cap, cur, hv, hg, hh, hle, hm, _⟩
  · injection hv with _ _ h3
    omega
  · injection hv with _ _ h3
    unfold maxLen at hm
    omega
theorem OwnX.mrk {w w' : World} {lo hi n c : Nat} {A : Option Addr} {rs : List Tri} {k : Int} (h : OwnX w lo hi A n c rs) (h2 : OwnK w' lo A n c (mrkK k n rs)) : OwnX w' lo hi A n c (mrkK k n rs) := by
  refine ⟨h2, h.up, fun r hr => ?_⟩
  obtain ⟨i, hi9, e⟩ := List.getElem_of_mem hr
  have h9 := mrkK_b k n rs i
  rw [List.getElem?_eq_getElem hi9, e] at h9
  rcases hz : rs[i]? with _ | z
  · rw [hz] at h9; cases h9
  · rw [hz] at h9
    have h8 : r.b = z.b := Option.some.inj h9
    have := h.ub z (List.mem_of_getElem? hz)
    omega
set_option maxHeartbeats 4000000 in
set_option maxRecDepth 100000 in
theorem law_PairDistances (A0 : Option Addr) (n0 c0 : Nat) (xs0 : List St) (w : World) (hr0 : RS w w.heap.size A0 n0 xs0) (hm0 : n0 ≤ 9223372036854775807) (hw0 : ∀ x ∈ xs0, x.nm.size ≤ 9223372036854775807) :
    Calls Try.prog 12 #[.slice A0 n0 c0] w fun e w' => e = .returned (.bool true) ∧ Below w.heap.size w w' := by
  have HZ0 := hide (szStationS_any A0 n0 c0 xs0 w hr0 hm0 hw0)
  obtain ⟨ys0, r1, HS, HI, HY0⟩ : ∃ (ys0 : List (Int × Int × Int)) (r1 : Bool), Hid (∀ (W : World) (A0' : Option Addr) (n0' c0' : Nat), n0' ≤ 1048576 → n0' ≤ c0' → c0' ≤ 9223372036854775807 → RS W W.heap.size A0' n0' xs0 → Calls Try.prog 43 #[.slice A0' n0' c0'] W (RetKB W ys0 r1)) ∧ Hid (∀ (W : World) (A0' : Option Addr) (n0' c0' : Nat), n0' ≤ 1048576 → n0' ≤ c0' → c0' ≤ 9223372036854775807 → RS W W.heap.size A0' n0' xs0 → Calls Try.prog 44 #[.slice A0' n0' c0'] W (RetKB W ys0 r1)) ∧ Hid (ys0.length ≤ 2097152) :=
    ⟨_, _, fun W A0' n0' c0' h0' q0' m0' g0' => specPair_any A0' n0' c0' xs0 W g0' (by omega) hw0, fun W A0' n0' c0' h0' q0' m0' g0' => implPair_any A0' n0' c0' xs0 W g0' (by omega) hw0 q0' m0', pair_len _⟩
  have HR0 := hide hr0
  have HL0 := hide hr0.len
  clear hr0
  have HB0 := hide (Below.refl w.heap.size w)
  go_enter Try.func12, Try.ntmps12
  go_wp2_with fail
  refine (unhide HZ0).mono ?_
  rintro e w1 ⟨r, rfl, hr, hb1⟩
  have z1 := hb1.size
  have HB1 := hide ((unhide HB0).trans (hb1.mono (unhide HB0).size))
  clear hb1 HB0
  rcases hr with rfl | ⟨hr0, hle0⟩
  · go_wp2_with fail
    go_ret
    exact ⟨rfl, unhide HB1⟩
  go_wp2_with fail
  refine (toStationS_any A0 n0 c0 xs0 _ (((unhide HR0).below (unhide HB1)).more (unhide HB1).size) hle0).mono ?_
  rintro e w2 ⟨A_p0, n_p0, c_p0, rfl, hO2, hb2⟩
  have hn_p0 : n_p0 ≤ 1048576 := by have := hO2.len; have := unhide HL0; omega
  have z2 := hb2.size
  have HB2 := hide ((unhide HB1).trans (hb2.mono (unhide HB1).size))
  clear hb2 HB1
  have Op0_2 := hide (ownR_of hO2)
  clear hO2
  go_wp2_with fail
  refine (unhide HS _ A_p0 n_p0 c_p0 hn_p0 (ownR_cap (unhide Op0_2)) (ownR_cmx (unhide Op0_2)) ((unhide Op0_2).rs)).mono ?_
  rintro e w3 ⟨A_w0, n_w0, c_w0, t_w0, rfl, hO3_0, ht_w0, hb3⟩
  have hn_w0 : n_w0 ≤ 2097152 := by have h1 := hO3_0.len; have h2 := unhide HY0; rw [← ht_w0, List.length_map] at h2; omega
  have HT_w0 := hide ht_w0
  clear ht_w0
  have z3 := hb3.size
  have HB3 := hide ((unhide HB2).trans (hb3.mono (unhide HB2).size))
  have Op0_3 := hide ((unhide Op0_2).below hb3 (Nat.le_refl _))
  clear Op0_2
  clear hb3 HB2
  have Ow0_3 := hide (ownX_of hO3_0)
  clear hO3_0
  clear Op0_3
  go_wp2_with fail
  refine (toStationS_any A0 n0 c0 xs0 _ (((unhide HR0).below (unhide HB3)).more (unhide HB3).size) hle0).mono ?_
  rintro e w4 ⟨A_x0, n_x0, c_x0, rfl, hO4, hb4⟩
  have hn_x0 : n_x0 ≤ 1048576 := by have := hO4.len; have := unhide HL0; omega
  have z4 := hb4.size
  have HB4 := hide ((unhide HB3).trans (hb4.mono (unhide HB3).size))
  have Ow0_4 := hide ((unhide Ow0_3).below hb4 (Nat.le_refl _))
  clear Ow0_3
  clear hb4 HB3
  have Ox0_4 := hide (ownR_of hO4)
  clear hO4
  go_wp2_with fail
  refine (unhide HI _ A_x0 n_x0 c_x0 hn_x0 (ownR_cap (unhide Ox0_4)) (ownR_cmx (unhide Ox0_4)) ((unhide Ox0_4).rs)).mono ?_
  rintro e w5 ⟨A_g0, n_g0, c_g0, t_g0, rfl, hO5_0, ht_g0, hb5⟩
  have hn_g0 : n_g0 ≤ 2097152 := by have h1 := hO5_0.len; have h2 := unhide HY0; rw [← ht_g0, List.length_map] at h2; omega
  have HT_g0 := hide ht_g0
  clear ht_g0
  have z5 := hb5.size
  have HB5 := hide ((unhide HB4).trans (hb5.mono (unhide HB4).size))
  have Ow0_5 := hide ((unhide Ow0_4).below hb5 (Nat.le_refl _))
  clear Ow0_4
  have Ox0_5 := hide ((unhide Ox0_4).below hb5 (Nat.le_refl _))
  clear Ox0_4
  clear hb5 HB4
  have Og0_5 := hide (ownX_of hO5_0)
  clear hO5_0
  go_wp2_with fail
  refine (eqIntSS_same A_g0 A_w0 n_g0 n_w0 c_g0 c_w0 _ _ _ (unhide Og0_5).rk (unhide Ow0_5).rk ((unhide HT_g0).trans (unhide HT_w0).symm) (unhide Og0_5).max).mono ?_
  rintro e w6 ⟨rfl, hb6⟩
  have z6 := hb6.size
  have HB6 := hide ((unhide HB5).trans (hb6.mono (unhide HB5).size))
  have Ow0_6 := hide ((unhide Ow0_5).below hb6 (Nat.le_refl _))
  clear Ow0_5
  have Ox0_6 := hide ((unhide Ox0_5).below hb6 (Nat.le_refl _))
  clear Ox0_5
  have Og0_6 := hide ((unhide Og0_5).below hb6 (Nat.le_refl _))
  clear Og0_5
  clear hb6 HB5
  go_wp2_with fail
  refine (toStationS_any A0 n0 c0 xs0 _ (((unhide HR0).below (unhide HB6)).more (unhide HB6).size) hle0).mono ?_
  rintro e w7 ⟨A_y0, n_y0, c_y0, rfl, hO7, hb7⟩
  have hn_y0 : n_y0 ≤ 1048576 := by have := hO7.len; have := unhide HL0; omega
  have z7 := hb7.size
  have HB7 := hide ((unhide HB6).trans (hb7.mono (unhide HB6).size))
  have Ow0_7 := hide ((unhide Ow0_6).below hb7 (Nat.le_refl _))
  clear Ow0_6
  have Ox0_7 := hide ((unhide Ox0_6).below hb7 (Nat.le_refl _))
  clear Ox0_6
  have Og0_7 := hide ((unhide Og0_6).below hb7 (Nat.le_refl _))
  clear Og0_6
  clear hb7 HB6
  have Oy0_7 := hide (ownR_of hO7)
  clear hO7
  go_wp2_with fail
  refine (eqStationS_any A_x0 A_y0 n_x0 n_y0 c_x0 c_y0 _ _ xs0 xs0 _ ((unhide Ox0_7).rs) ((unhide Oy0_7).rs) (unhide Ox0_7).max (unhide Oy0_7).max (Nat.le_refl _) (Nat.le_refl _)).mono ?_
  rintro e w8 ⟨rfl, hb8⟩
  have z8 := hb8.size
  have HB8 := hide ((unhide HB7).trans (hb8.mono (unhide HB7).size))
  have Ow0_8 := hide ((unhide Ow0_7).below hb8 (Nat.le_refl _))
  clear Ow0_7
  have Ox0_8 := hide ((unhide Ox0_7).below hb8 (Nat.le_refl _))
  clear Ox0_7
  have Og0_8 := hide ((unhide Og0_7).below hb8 (Nat.le_refl _))
  clear Og0_7
  have Oy0_8 := hide ((unhide Oy0_7).below hb8 (Nat.le_refl _))
  clear Oy0_7
  clear hb8 HB7
  clear Oy0_8
  go_wp2_with fail
  refine (markStationS_any A_x0 n_x0 c_x0 _ xs0 _ _ (unhide Ox0_8).1 (by omega) (by omega) (by omega)).mono ?_
  rintro e w9 ⟨rfl, hO9, hg9⟩
  have z9 := hg9.size
  have HB9 := hide ((unhide Ox0_8).grown (unhide HB8) (by omega) (unhide HB8).size hg9)
  have Ow0_9 := hide ((unhide Ow0_8).kept hg9 (unhide Ox0_8) (by omega))
  clear Ow0_8
  have Og0_9 := hide ((unhide Og0_8).kept hg9 (unhide Ox0_8) (by omega))
  clear Og0_8
  clear hg9 HB8
  have Ox0_9 : Hid (OwnR _ _ _ _ _ _ _ _ _) := ⟨hO9, (unhide Ox0_8).2⟩
  clear Ox0_8 hO9
  go_wp2_with fail
  refine (eqIntSS_same A_g0 A_w0 n_g0 n_w0 c_g0 c_w0 _ _ _ (unhide Og0_9).rk (unhide Ow0_9).rk ((unhide HT_g0).trans (unhide HT_w0).symm) (unhide Og0_9).max).mono ?_
  rintro e w10 ⟨rfl, hb10⟩
  have z10 := hb10.size
  have HB10 := hide ((unhide HB9).trans (hb10.mono (unhide HB9).size))
  have Ow0_10 := hide ((unhide Ow0_9).below hb10 (Nat.le_refl _))
  clear Ow0_9
  have Ox0_10 := hide ((unhide Ox0_9).below hb10 (Nat.le_refl _))
  clear Ox0_9
  have Og0_10 := hide ((unhide Og0_9).below hb10 (Nat.le_refl _))
  clear Og0_9
  clear hb10 HB9
  clear Ox0_10
  go_wp2_with fail
  refine (markIntSS_any A_g0 n_g0 c_g0 _ t_g0 1 _ (unhide Og0_10).own (by omega) (by omega) (by omega) (by omega)).mono ?_
  rintro e w11 ⟨rfl, hO11, hb11⟩
  have z11 := hb11.size
  have HB11 := hide ((unhide HB10).trans (hb11.mono (by omega)))
  have Ow0_11 := hide ((unhide Ow0_10).low hb11 (by omega))
  clear Ow0_10
  have Og0_11 := hide ((unhide Og0_10).mrk hO11)
  clear Og0_10 hO11 hb11 HB10
  go_wp2_with fail
  refine (heldIntSS_any A_g0 n_g0 c_g0 _ _ 1 _ (unhide Og0_11).rk (by omega) (by omega) (by omega)).mono ?_
  rintro e wq ⟨rfl, rfl⟩
  go_wp2_with fail
  refine (toStationS_any A0 n0 c0 xs0 _ (((unhide HR0).below (unhide HB11)).more (unhide HB11).size) hle0).mono ?_
  rintro e w12 ⟨A_q0, n_q0, c_q0, rfl, hO12, hb12⟩
  have hn_q0 : n_q0 ≤ 1048576 := by have := hO12.len; have := unhide HL0; omega
  have z12 := hb12.size
  have HB12 := hide ((unhide HB11).trans (hb12.mono (unhide HB11).size))
  have Ow0_12 := hide ((unhide Ow0_11).below hb12 (Nat.le_refl _))
  clear Ow0_11
  have Og0_12 := hide ((unhide Og0_11).below hb12 (Nat.le_refl _))
  clear Og0_11
  clear hb12 HB11
  have Oq0_12 := hide (ownR_of hO12)
  clear hO12
  go_wp2_with fail
  refine (unhide HI _ A_q0 n_q0 c_q0 hn_q0 (ownR_cap (unhide Oq0_12)) (ownR_cmx (unhide Oq0_12)) ((unhide Oq0_12).rs)).mono ?_
  rintro e w13 ⟨A_h0, n_h0, c_h0, t_h0, rfl, hO13_0, ht_h0, hb13⟩
  have hn_h0 : n_h0 ≤ 2097152 := by have h1 := hO13_0.len; have h2 := unhide HY0; rw [← ht_h0, List.length_map] at h2; omega
  have HT_h0 := hide ht_h0
  clear ht_h0
  have z13 := hb13.size
  have HB13 := hide ((unhide HB12).trans (hb13.mono (unhide HB12).size))
  have Ow0_13 := hide ((unhide Ow0_12).below hb13 (Nat.le_refl _))
  clear Ow0_12
  have Og0_13 := hide ((unhide Og0_12).below hb13 (Nat.le_refl _))
  clear Og0_12
  have Oq0_13 := hide ((unhide Oq0_12).below hb13 (Nat.le_refl _))
  clear Oq0_12
  clear hb13 HB12
  have Oh0_13 := hide (ownX_of hO13_0)
  clear hO13_0
  clear Oq0_13
  go_wp2_with fail
  refine (eqIntSS_same A_h0 A_w0 n_h0 n_w0 c_h0 c_w0 _ _ _ (unhide Oh0_13).rk (unhide Ow0_13).rk ((unhide HT_h0).trans (unhide HT_w0).symm) (unhide Oh0_13).max).mono ?_
  rintro e w14 ⟨rfl, hb14⟩
  have z14 := hb14.size
  have HB14 := hide ((unhide HB13).trans (hb14.mono (unhide HB13).size))
  have Ow0_14 := hide ((unhide Ow0_13).below hb14 (Nat.le_refl _))
  clear Ow0_13
  have Og0_14 := hide ((unhide Og0_13).below hb14 (Nat.le_refl _))
  clear Og0_13
  have Oh0_14 := hide ((unhide Oh0_13).below hb14 (Nat.le_refl _))
  clear Oh0_13
  clear hb14 HB13
  go_wp2_with fail
  refine (heldIntSS_any A_g0 n_g0 c_g0 _ _ 1 _ (unhide Og0_14).rk (by omega) (by omega) (by omega)).mono ?_
  rintro e wq ⟨rfl, rfl⟩
  go_wp2_with fail
  go_ret
  exact ⟨rfl, unhide HB14⟩
end Go.Proofs.Ytihkocplgciifaa
