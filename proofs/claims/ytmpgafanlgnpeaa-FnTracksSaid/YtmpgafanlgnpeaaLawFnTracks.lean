/- The walk of the law FnTracks: it says true, at every input; what was there stays as it was. (By gen_FnTracks.py.) -/
import Derived.Test.YtmpgafanlgnpeaaProg
import Derived.Test.YtmpgafanlgnpeaaDrawM
import Derived.Test.YtmpgafanlgnpeaaTrkLaw
import Derived.Test.YtmpgafanlgnpeaaSame
import Derived.Test.YtmpgafanlgnpeaaClkC
import Derived.Test.YtmpgafanlgnpeaaClkF
import Derived.Test.YtmpgafanlgnpeaaClkG
import Derived.Test.YtmpgafanlgnpeaaDropD
import Derived.Test.YtmpgafanlgnpeaaMergeB
import Derived.Test.YtmpgafanlgnpeaaAddB
import Derived.Deep.DeepCutAuto
namespace Go.Proofs.Ytmpgafanlgnpeaa
open Go.RowKit
set_option linter.unusedVariables false

/-- a block held whole, carried like a row -/
def WhlO (w : World) (g : Nat) (t : TypeId) (cs : Array Value) : Prop := Whl w g t cs
theorem WhlO.below {w w' : World} {g : Nat} {t : TypeId} {cs : Array Value} (h : WhlO w g t cs) (hb : Below w.heap.size w w') (_ : w.heap.size ≤ w.heap.size) : WhlO w' g t cs := Whl.below h hb
theorem WhlO.cell {w : World} {g : Nat} {t : TypeId} {cs : Array Value} (h : WhlO w g t cs) (i : Nat) : w.cell? ⟨g, i, none⟩ = cs[i]? := Whl.cell h i
theorem bool_same (b : Bool) : (b != b) = false := by simp
/-- a product of two that are not large -/
theorem mul_small {a b : Int} (h1 : 0 ≤ a ∧ a ≤ 1000000) (h2 : 0 ≤ b ∧ b ≤ 1000000) : 0 ≤ a * b ∧ a * b ≤ 1000000000000 :=
  ⟨Int.mul_nonneg h1.1 h2.1, by have := Int.mul_le_mul h1.2 h2.2 h2.1 (by decide : (0 : Int) ≤ 1000000); omega⟩
theorem mrg_short {xs ys : List (Int × Int)} (h : (mrgR xs ys).2 = true) : (mrgR xs ys).1.length ≤ 12 := by
  have := (trk_of (mrg_yes h).2.2.1).2.2
  omega
set_option maxHeartbeats 4000000 in
set_option maxRecDepth 100000 in
theorem law_FnTracks (A : Option Addr) (n c : Nat) (xs : List Int) (w : World) (hr : RB w w.heap.size A n xs) :
    Calls Try.prog 14 #[.slice A n c] w fun e w' => e = .returned (.bool true) ∧ Below w.heap.size w w' := by
  have HR := hide (fun (W : World) (hb : Below w.heap.size w W) => RB.later hr hb)
  have HB0 := hide (Below.refl w.heap.size w)
  clear hr
  go_enter Try.func14, Try.ntmps14
  go_wp2_with fail
  refine (rBig_any A n c w).mono ?_
  rintro e w1 ⟨rfl, rfl⟩
  by_cases hbig : 65536 < n
  · have hbt : decide (65536 < n) = true := by simpa using hbig
    go_wp2_with fail
    go_ret
    exact ⟨rfl, Below.refl _ _⟩
  have hbt : decide (65536 < n) = false := by simpa using hbig
  have hn : n ≤ 65536 := by omega
  clear hbig
  go_wp2_with fail
  refine (drawDropMarks_any A n c xs _ (unhide HR _ (unhide HB0)) hn).mono ?_
  rintro e w1 ⟨Aa, na, ca, ta, xa, rfl, hO, hna, hb⟩
  have HB1 := hide (below_next (unhide HB0) hb)
  have Oa_1 := hide hO
  clear hb hO
  go_wp2_with fail
  obtain ⟨ds, b, hdb⟩ : ∃ ds b, dropR ta xa = (ds, b) := ⟨_, _, rfl⟩
  have HT2 := hide (implDrop_any Aa na ca ta xa w1 (unhide Oa_1).rp (by omega))
  rw [hdb] at HT2
  refine (unhide HT2).mono ?_
  rintro e w2 ⟨Ad, nd, cd, rfl, hO, hb⟩
  have HB2 := hide (below_next (unhide HB1) hb)
  have Oa_2 := hide ((unhide Oa_1).below hb (Nat.le_refl _))
  clear Oa_1
  have Od_2 := hide hO
  clear hb hO
  clear HT2
  go_wp2_with fail
  have HT3 := hide (specDrop_any Aa na ca ta xa w2 (unhide Oa_2).rp (by omega))
  rw [hdb] at HT3
  refine (unhide HT3).mono ?_
  rintro e w3 ⟨Ae, ne, ce, rfl, hO, hb⟩
  have HB3 := hide (below_next (unhide HB2) hb)
  have Oa_3 := hide ((unhide Oa_2).below hb (Nat.le_refl _))
  clear Oa_2
  have Od_3 := hide ((unhide Od_2).below hb (Nat.le_refl _))
  clear Od_2
  have Oe_3 := hide hO
  clear hb hO
  clear HT3
  clear Oa_3
  go_upto_region 6 with (fail)
  go_cut [74] (fun v wx => v = .bool false ∧ Hid (Below w.heap.size w wx))
  case first =>
    have e1 := bool_same b
    have hdl : nd ≤ 2097152 := by have h1 := dropR_len ta xa; rw [hdb] at h1; simp only at h1; have := (unhide Od_3).len; omega
    go_wp2_with fail
    refine (rMarks_same Ad Ae nd ne cd ce _ _ (ds) _ (unhide Od_3).rp (unhide Oe_3).rp (unhide Od_3).max).mono ?_
    rintro e w4 ⟨rfl, hb⟩
    have HB4 := hide (below_next (unhide HB3) hb)
    have Od_4 := hide ((unhide Od_3).below hb (Nat.le_refl _))
    clear Od_3
    have Oe_4 := hide ((unhide Oe_3).below hb (Nat.le_refl _))
    clear Oe_3
    clear hb 
    rcases b with _ | _
    · skip
      go_wp2_with fail
      go_meet
      exact ⟨rfl, unhide HB4⟩
    · skip
      have htk := drop_trk (xs := ta) (d := xa) (by rw [hdb])
      rw [hdb] at htk
      have HT9 := hide (implIsTrack_any Ad nd cd ds w4 (unhide Od_4).rp (by omega))
      rw [htk] at HT9
      clear htk
      go_wp2_with fail
      refine (unhide HT9).mono ?_
      rintro e w5 ⟨rfl, hb⟩
      have HB5 := hide (below_next (unhide HB4) hb)
      have Od_5 := hide ((unhide Od_4).below hb (Nat.le_refl _))
      clear Od_4
      have Oe_5 := hide ((unhide Oe_4).below hb (Nat.le_refl _))
      clear Oe_4
      clear hb 
      clear HT9
      go_wp2_with fail
      go_meet
      exact ⟨rfl, unhide HB5⟩
  case rest =>
    obtain ⟨rfl, hcut⟩ := hcut
    generalize wc = w6 at *
    have HB6 := hide hcut
    clear hcut
    go_wp2_with fail
    refine (drawMergeTracks_any A n c xs _ (unhide HR _ (unhide HB6)) hn).mono ?_
    rintro e w7 ⟨Ap, np, cp, tp, Aq, nq, cq, tq, rfl, hO, hO2, hnp, hnq, hb⟩
    have HB7 := hide (below_next (unhide HB6) hb)
    have Op_7 := hide hO
    have Oq_7 := hide hO2
    clear hb hO hO2
    go_wp2_with fail
    obtain ⟨ms, b2, hmb⟩ : ∃ ds b, mrgR tp tq = (ds, b) := ⟨_, _, rfl⟩
    have HT8 := hide (implMerge_any Ap Aq np nq cp cq tp tq w7 (unhide Op_7).rp (unhide Oq_7).rp (by omega) (by omega))
    rw [hmb] at HT8
    refine (unhide HT8).mono ?_
    rintro e w8 ⟨Am, nm, cm, rfl, hO, hb⟩
    have HB8 := hide (below_next (unhide HB7) hb)
    have Op_8 := hide ((unhide Op_7).below hb (Nat.le_refl _))
    clear Op_7
    have Oq_8 := hide ((unhide Oq_7).below hb (Nat.le_refl _))
    clear Oq_7
    have Om_8 := hide hO
    clear hb hO
    clear HT8
    go_wp2_with fail
    have HT9 := hide (specMerge_any Ap Aq np nq cp cq tp tq w8 (unhide Op_8).rp (unhide Oq_8).rp (by omega) (by omega))
    rw [hmb] at HT9
    refine (unhide HT9).mono ?_
    rintro e w9 ⟨Az, nz, cz, rfl, hO, hb⟩
    have HB9 := hide (below_next (unhide HB8) hb)
    have Op_9 := hide ((unhide Op_8).below hb (Nat.le_refl _))
    clear Op_8
    have Oq_9 := hide ((unhide Oq_8).below hb (Nat.le_refl _))
    clear Oq_8
    have Om_9 := hide ((unhide Om_8).below hb (Nat.le_refl _))
    clear Om_8
    have Oz_9 := hide hO
    clear hb hO
    clear HT9
    go_wp2_with fail
    have m1 := bool_same b2
    refine (rMarks_same Am Az nm nz cm cz _ _ (ms) _ (unhide Om_9).rp (unhide Oz_9).rp (unhide Om_9).max).mono ?_
    rintro e w10 ⟨rfl, hb⟩
    have HB10 := hide (below_next (unhide HB9) hb)
    have Op_10 := hide ((unhide Op_9).below hb (Nat.le_refl _))
    clear Op_9
    have Oq_10 := hide ((unhide Oq_9).below hb (Nat.le_refl _))
    clear Oq_9
    have Om_10 := hide ((unhide Om_9).below hb (Nat.le_refl _))
    clear Om_9
    have Oz_10 := hide ((unhide Oz_9).below hb (Nat.le_refl _))
    clear Oz_9
    clear hb 
    clear Oz_10
    go_upto_if 101 with (fail)
    go_cut [] (fun wx => Hid (Below w.heap.size w wx))
    case first =>
      rcases b2 with _ | _
      · skip
        go_wp2_with fail
        go_meet
        exact unhide HB10
      · skip
        have h2 : (mrgR tp tq).2 = true := by rw [hmb]
        have hag := mrg_again h2
        have hot := mrg_other h2
        have hsh := mrg_short h2
        rw [hmb] at hag hot hsh
        have hml : nm ≤ 12 := by have := (unhide Om_10).len; simp only at hsh; omega
        clear h2 hsh hmb m1
        go_wp2_with fail
        have HT11 := hide (implMerge_any Am Ap nm np cm cp ms tp w10 (unhide Om_10).rp (unhide Op_10).rp (by omega) (by omega))
        rw [hag] at HT11
        refine (unhide HT11).mono ?_
        rintro e w11 ⟨Ax, nx, cx, rfl, hO, hb⟩
        have HB11 := hide (below_next (unhide HB10) hb)
        have Op_11 := hide ((unhide Op_10).below hb (Nat.le_refl _))
        clear Op_10
        have Oq_11 := hide ((unhide Oq_10).below hb (Nat.le_refl _))
        clear Oq_10
        have Om_11 := hide ((unhide Om_10).below hb (Nat.le_refl _))
        clear Om_10
        have Ox_11 := hide hO
        clear hb hO
        clear HT11
        go_wp2_with fail
        have HT12 := hide (implMerge_any Aq Ap nq np cq cp tq tp w11 (unhide Oq_11).rp (unhide Op_11).rp (by omega) (by omega))
        rw [hot] at HT12
        refine (unhide HT12).mono ?_
        rintro e w12 ⟨Ay, ny, cy, rfl, hO, hb⟩
        have HB12 := hide (below_next (unhide HB11) hb)
        have Op_12 := hide ((unhide Op_11).below hb (Nat.le_refl _))
        clear Op_11
        have Oq_12 := hide ((unhide Oq_11).below hb (Nat.le_refl _))
        clear Oq_11
        have Om_12 := hide ((unhide Om_11).below hb (Nat.le_refl _))
        clear Om_11
        have Ox_12 := hide ((unhide Ox_11).below hb (Nat.le_refl _))
        clear Ox_11
        have Oy_12 := hide hO
        clear hb hO
        clear HT12
        go_wp2_with fail
        refine (rMarks_same Ax Am nx nm cx cm _ _ (ms) _ (unhide Ox_12).rp (unhide Om_12).rp (unhide Ox_12).max).mono ?_
        rintro e w13 ⟨rfl, hb⟩
        have HB13 := hide (below_next (unhide HB12) hb)
        have Op_13 := hide ((unhide Op_12).below hb (Nat.le_refl _))
        clear Op_12
        have Oq_13 := hide ((unhide Oq_12).below hb (Nat.le_refl _))
        clear Oq_12
        have Om_13 := hide ((unhide Om_12).below hb (Nat.le_refl _))
        clear Om_12
        have Ox_13 := hide ((unhide Ox_12).below hb (Nat.le_refl _))
        clear Ox_12
        have Oy_13 := hide ((unhide Oy_12).below hb (Nat.le_refl _))
        clear Oy_12
        clear hb 
        go_wp2_with fail
        refine (rMarks_same Ay Am ny nm cy cm _ _ (ms) _ (unhide Oy_13).rp (unhide Om_13).rp (unhide Oy_13).max).mono ?_
        rintro e w14 ⟨rfl, hb⟩
        have HB14 := hide (below_next (unhide HB13) hb)
        have Op_14 := hide ((unhide Op_13).below hb (Nat.le_refl _))
        clear Op_13
        have Oq_14 := hide ((unhide Oq_13).below hb (Nat.le_refl _))
        clear Oq_13
        have Om_14 := hide ((unhide Om_13).below hb (Nat.le_refl _))
        clear Om_13
        have Ox_14 := hide ((unhide Ox_13).below hb (Nat.le_refl _))
        clear Ox_13
        have Oy_14 := hide ((unhide Oy_13).below hb (Nat.le_refl _))
        clear Oy_13
        clear hb 
        go_wp2_with fail
        go_meet
        exact unhide HB14
    case rest =>
      generalize wc = w21 at *
      have HB21 := hide hcut
      clear hcut
      go_wp2_with fail
      refine (drawWorstDrift_any A n c xs _ (unhide HR _ (unhide HB21)) hn).mono ?_
      rintro e w22 ⟨Al, nl, cl, tl, rfl, hO, hnl, hb⟩
      have HB22 := hide (below_next (unhide HB21) hb)
      have Ol_22 := hide hO
      clear hb hO
      go_wp2_with fail
      obtain ⟨b3, hb3⟩ : ∃ b, trkB tl = b := ⟨_, rfl⟩
      obtain ⟨wv, hwv⟩ : ∃ v, (wrsR tl).1 = v := ⟨_, rfl⟩
      obtain ⟨dd, hdd⟩ : ∃ v, (drfR tl).1 = v := ⟨_, rfl⟩
      have ht1 := (wrs_told tl).1
      have ht2 := (wrs_told tl).2
      rw [hb3] at ht1 ht2
      have HWV := hide hwv
      have HDD := hide hdd
      have HB3 := hide hb3
      have HT23 := hide (implWorst_any Al nl cl tl w22 (unhide Ol_22).rp (by omega))
      rw [hwv, ht1] at HT23
      refine (unhide HT23).mono ?_
      rintro e w23 ⟨rfl, hb⟩
      have HB23 := hide (below_next (unhide HB22) hb)
      have Ol_23 := hide ((unhide Ol_22).below hb (Nat.le_refl _))
      clear Ol_22
      clear hb 
      clear HT23
      go_wp2_with fail
      have p1 : (wv != wv) = false := by simp
      have p2 := bool_same b3
      have HT24 := hide (specWorst_any Al nl cl tl w23 (unhide Ol_23).rp (by omega))
      rw [hwv, ht1] at HT24
      refine (unhide HT24).mono ?_
      rintro e w24 ⟨rfl, hb⟩
      have HB24 := hide (below_next (unhide HB23) hb)
      have Ol_24 := hide ((unhide Ol_23).below hb (Nat.le_refl _))
      clear Ol_23
      clear hb 
      clear HT24
      go_wp2_with fail
      have HT25 := hide (implDriftsOf_any Al nl cl tl w24 (unhide Ol_24).rp (by omega))
      rw [hdd, ht2] at HT25
      refine (unhide HT25).mono ?_
      rintro e w25 ⟨Ad, nd, cd, rfl, hO, hb⟩
      have HB25 := hide (below_next (unhide HB24) hb)
      have Ol_25 := hide ((unhide Ol_24).below hb (Nat.le_refl _))
      clear Ol_24
      have Od_25 := hide hO
      clear hb hO
      clear HT25
      go_wp2_with fail
      have HT26 := hide (specDriftsOf_any Al nl cl tl w25 (unhide Ol_25).rp (by omega))
      rw [hdd, ht2] at HT26
      refine (unhide HT26).mono ?_
      rintro e w26 ⟨Ae, ne, ce, rfl, hO, hb⟩
      have HB26 := hide (below_next (unhide HB25) hb)
      have Ol_26 := hide ((unhide Ol_25).below hb (Nat.le_refl _))
      clear Ol_25
      have Od_26 := hide ((unhide Od_25).below hb (Nat.le_refl _))
      clear Od_25
      have Oe_26 := hide hO
      clear hb hO
      clear HT26
      clear Ol_26
      go_wp2_with fail
      refine (rDrifts_same Ad Ae nd ne cd ce _ _ (dd) _ (unhide Od_26).rp (unhide Oe_26).rp (unhide Od_26).max).mono ?_
      rintro e w27 ⟨rfl, hb⟩
      have HB27 := hide (below_next (unhide HB26) hb)
      have Od_27 := hide ((unhide Od_26).below hb (Nat.le_refl _))
      clear Od_26
      have Oe_27 := hide ((unhide Oe_26).below hb (Nat.le_refl _))
      clear Oe_26
      clear hb 
      clear Oe_27
      have HLD := hide ((unhide Od_27)).len
      have hnd : nd ≤ 2097152 := by have h1 := drifts_len tl; rw [hdd] at h1; have := unhide HLD; omega
      clear ht1 ht2 hdd hwv hb3 p1 p2
      go_wp2_with fail
      go_loopw [28] (fun i wr => ∃ k : Nat, k ≤ nd ∧ i = .int .i64 k ∧ Hid (Below w27.heap.size w27 wr)) (fun i _ => nd - (intOf i).toNat)
      case atStart => exact ⟨0, Nat.zero_le _, rfl, Below.refl _ _⟩
      case round =>
        obtain ⟨k, hk, rfl, hB⟩ := hrel
        by_cases hlt : k < nd
        · skip
          have hOr := (unhide Od_27).below (unhide hB) (Nat.le_refl _)
          obtain ⟨ad, x, y, rfl, hbx, hx, c0, c1⟩ := hOr.rp.get hlt
          have htl : trkB tl = true := by
            rcases h9 : trkB tl with _ | _
            · have h8 := unhide HDD
              unfold drfR at h8
              rw [h9] at h8
              have h7 := unhide HLD
              rw [← h8] at h7
              simp at h7
              omega
            · rfl
          obtain ⟨V, hV, hVl, hworst⟩ := drift_worst htl
          rw [unhide HWV] at hV
          rw [unhide HDD] at hVl hworst
          have hVn : V < nd := by have := unhide HLD; omega
          obtain ⟨ad2, x2, y2, had, hby, hy, d0, d1⟩ := hOr.rp.get hVn
          obtain rfl : ad = ad2 := by injection had
          have hle := hworst k (x, y) (x2, y2) (unhide hx) (unhide hy)
          have hs1 := drift_small (xs := tl) (x, y) (by rw [unhide HDD]; exact List.mem_of_getElem? (unhide hx))
          have hs2 := drift_small (xs := tl) (x2, y2) (by rw [unhide HDD]; exact List.mem_of_getElem? (unhide hy))
          obtain ⟨⟨a1, a2⟩, a3, a4⟩ := hs1
          obtain ⟨⟨a5, a6⟩, a7, a8⟩ := hs2
          simp only at a1 a2 a3 a4 a5 a6 a7 a8
          subst hV
          have HLE := hide hle
          have l1 : (k : Int) < (nd : Int) := by omega
          have l2 : (0 : Int) ≤ (k : Int) := by omega
          have l3 : (V : Int) < (nd : Int) := by omega
          have l4 : (0 : Int) ≤ (V : Int) := by omega
          clear hworst hle hx hy htl had hOr hVl
          by_cases hx0 : x - y < 0
          · skip
            by_cases hy0 : x2 - y2 < 0
            · skip
              have HX : Hid (offD (x, y) = -(x - y)) := by unfold Hid offD; simp only; omega
              have HY : Hid (offD (x2, y2) = -(x2 - y2)) := by unfold Hid offD; simp only; omega
              have b1 : 0 ≤ -(x - y) ∧ -(x - y) ≤ 1000000 := by omega
              have b2 : 0 ≤ -(x2 - y2) ∧ -(x2 - y2) ≤ 1000000 := by omega
              go_wp2_with fail
              go_quiet (fail)
              go_upto_region 35 with (fail)
              rw [unhide HX, unhide HY] at HLE
              generalize -(x - y) = X at *
              generalize -(x2 - y2) = Y at *
              have hle := unhide HLE
              try simp only at hle
              have b3 := mul_small b1 ⟨a7, a8⟩
              have b4 := mul_small b2 ⟨a3, a4⟩
              have hle2 : ¬ Y * y < X * y2 := by omega
              have s1 : IntKind.i64.wrap (X * y2) = X * y2 := IntWalk.i64_in _ (by omega)
              have s2 : IntKind.i64.wrap (Y * y) = Y * y := IntWalk.i64_in _ (by omega)
              clear HLE HX HY hle
              go_wp2_with fail
              go_quiet (fail)
              go_wp2_with fail
              go_roundw
              case rel => exact ⟨k + 1, by omega, by go_num, below_drewN (unhide hB) _⟩
              case measure => simp [intOf]; omega
            · skip
              have HX : Hid (offD (x, y) = -(x - y)) := by unfold Hid offD; simp only; omega
              have HY : Hid (offD (x2, y2) = x2 - y2) := by unfold Hid offD; simp only; omega
              have b1 : 0 ≤ -(x - y) ∧ -(x - y) ≤ 1000000 := by omega
              have b2 : 0 ≤ x2 - y2 ∧ x2 - y2 ≤ 1000000 := by omega
              go_wp2_with fail
              go_quiet (fail)
              go_upto_region 35 with (fail)
              rw [unhide HX, unhide HY] at HLE
              generalize -(x - y) = X at *
              generalize x2 - y2 = Y at *
              have hle := unhide HLE
              try simp only at hle
              have b3 := mul_small b1 ⟨a7, a8⟩
              have b4 := mul_small b2 ⟨a3, a4⟩
              have hle2 : ¬ Y * y < X * y2 := by omega
              have s1 : IntKind.i64.wrap (X * y2) = X * y2 := IntWalk.i64_in _ (by omega)
              have s2 : IntKind.i64.wrap (Y * y) = Y * y := IntWalk.i64_in _ (by omega)
              clear HLE HX HY hle
              go_wp2_with fail
              go_quiet (fail)
              go_wp2_with fail
              go_roundw
              case rel => exact ⟨k + 1, by omega, by go_num, below_drewN (unhide hB) _⟩
              case measure => simp [intOf]; omega
          · skip
            by_cases hy0 : x2 - y2 < 0
            · skip
              have HX : Hid (offD (x, y) = x - y) := by unfold Hid offD; simp only; omega
              have HY : Hid (offD (x2, y2) = -(x2 - y2)) := by unfold Hid offD; simp only; omega
              have b1 : 0 ≤ x - y ∧ x - y ≤ 1000000 := by omega
              have b2 : 0 ≤ -(x2 - y2) ∧ -(x2 - y2) ≤ 1000000 := by omega
              go_wp2_with fail
              go_quiet (fail)
              go_upto_region 35 with (fail)
              rw [unhide HX, unhide HY] at HLE
              generalize x - y = X at *
              generalize -(x2 - y2) = Y at *
              have hle := unhide HLE
              try simp only at hle
              have b3 := mul_small b1 ⟨a7, a8⟩
              have b4 := mul_small b2 ⟨a3, a4⟩
              have hle2 : ¬ Y * y < X * y2 := by omega
              have s1 : IntKind.i64.wrap (X * y2) = X * y2 := IntWalk.i64_in _ (by omega)
              have s2 : IntKind.i64.wrap (Y * y) = Y * y := IntWalk.i64_in _ (by omega)
              clear HLE HX HY hle
              go_wp2_with fail
              go_quiet (fail)
              go_wp2_with fail
              go_roundw
              case rel => exact ⟨k + 1, by omega, by go_num, below_drewN (unhide hB) _⟩
              case measure => simp [intOf]; omega
            · skip
              have HX : Hid (offD (x, y) = x - y) := by unfold Hid offD; simp only; omega
              have HY : Hid (offD (x2, y2) = x2 - y2) := by unfold Hid offD; simp only; omega
              have b1 : 0 ≤ x - y ∧ x - y ≤ 1000000 := by omega
              have b2 : 0 ≤ x2 - y2 ∧ x2 - y2 ≤ 1000000 := by omega
              go_wp2_with fail
              go_quiet (fail)
              go_upto_region 35 with (fail)
              rw [unhide HX, unhide HY] at HLE
              generalize x - y = X at *
              generalize x2 - y2 = Y at *
              have hle := unhide HLE
              try simp only at hle
              have b3 := mul_small b1 ⟨a7, a8⟩
              have b4 := mul_small b2 ⟨a3, a4⟩
              have hle2 : ¬ Y * y < X * y2 := by omega
              have s1 : IntKind.i64.wrap (X * y2) = X * y2 := IntWalk.i64_in _ (by omega)
              have s2 : IntKind.i64.wrap (Y * y) = Y * y := IntWalk.i64_in _ (by omega)
              clear HLE HX HY hle
              go_wp2_with fail
              go_quiet (fail)
              go_wp2_with fail
              go_roundw
              case rel => exact ⟨k + 1, by omega, by go_num, below_drewN (unhide hB) _⟩
              case measure => simp [intOf]; omega
        · skip
          obtain rfl : k = nd := by omega
          have HBn := hide (below_next (unhide HB27) (unhide hB))
          have l1 : ¬ (k : Int) < (k : Int) := by omega
          clear hB HLD HDD HWV HB3
          generalize wr = w29 at *
          go_wp2_with fail
          refine (drawAddClockMark_any A n c xs _ (unhide HR _ (unhide HBn)) hn).mono ?_
          rintro e w30 ⟨Au, nu, cu, tu, xu, yu, rfl, hO, hnu, hb⟩
          have HB30 := hide (below_next (unhide HBn) hb)
          have Ou_30 := hide hO
          clear hb hO
          go_wp2_with fail
          have KX : Hid (WhlO (w30.alloc (.cells #[.int .i64 xu, .int .i64 yu] 43)) w30.heap.size 43 #[.int .i64 xu, .int .i64 yu]) := Whl.here _ _ _
          have HB31 := hide ((unhide HB30).alloc (unhide HB30).size (.cells #[.int .i64 xu, .int .i64 yu] 43))
          have Ou_31 := hide ((unhide Ou_30).alloc (.cells #[.int .i64 xu, .int .i64 yu] 43))
          clear Ou_30
          generalize w30.alloc (.cells #[.int .i64 xu, .int .i64 yu] 43) = w31 at *
          generalize w30.heap.size = gx at *
          obtain ⟨vs, b5, hvb⟩ : ∃ v b, addR tu (xu, yu) = (v, b) := ⟨_, _, rfl⟩
          have HT32 := hide (implAdd_any Au nu cu tu xu yu w31 (unhide Ou_31).rp (by omega))
          rw [hvb] at HT32
          refine (unhide HT32).mono ?_
          rintro e w32 ⟨Av, nv, cv, rfl, hO, hb⟩
          have HB32 := hide (below_next (unhide HB31) hb)
          have Ou_32 := hide ((unhide Ou_31).below hb (Nat.le_refl _))
          clear Ou_31
          have OKX_32 := hide ((unhide KX).below hb (Nat.le_refl _))
          clear KX
          have Ov_32 := hide hO
          clear hb hO
          clear HT32
          have x0 : w32.cell? ⟨gx, 0, none⟩ = some (.int .i64 xu) := WhlO.cell (unhide OKX_32) 0
          have x1 : w32.cell? ⟨gx, 1, none⟩ = some (.int .i64 yu) := WhlO.cell (unhide OKX_32) 1
          go_wp2_with fail
          clear x0 x1
          have r1 := bool_same b5
          have HT33 := hide (specAdd_any Au nu cu tu xu yu w32 (unhide Ou_32).rp (by omega) (unhide Ou_32).cap (ownR_cmx (ownR_of (unhide Ou_32))))
          rw [hvb] at HT33
          refine (unhide HT33).mono ?_
          rintro e w33 ⟨Az, nz, cz, rfl, hO, hb⟩
          have HB33 := hide (below_next (unhide HB32) hb)
          have Ou_33 := hide ((unhide Ou_32).below hb (Nat.le_refl _))
          clear Ou_32
          have OKX_33 := hide ((unhide OKX_32).below hb (Nat.le_refl _))
          clear OKX_32
          have Ov_33 := hide ((unhide Ov_32).below hb (Nat.le_refl _))
          clear Ov_32
          have Oz_33 := hide hO
          clear hb hO
          clear HT33
          clear Ou_33
          go_wp2_with fail
          refine (rMarks_same Av Az nv nz cv cz _ _ (vs) _ (unhide Ov_33).rp (unhide Oz_33).rp (unhide Ov_33).max).mono ?_
          rintro e w34 ⟨rfl, hb⟩
          have HB34 := hide (below_next (unhide HB33) hb)
          have OKX_34 := hide ((unhide OKX_33).below hb (Nat.le_refl _))
          clear OKX_33
          have Ov_34 := hide ((unhide Ov_33).below hb (Nat.le_refl _))
          clear Ov_33
          have Oz_34 := hide ((unhide Oz_33).below hb (Nat.le_refl _))
          clear Oz_33
          clear hb 
          clear Oz_34
          have hvl : nv ≤ 2097152 := by have h1 := addR_len tu (xu, yu); rw [hvb] at h1; have := (unhide Ov_34).len; simp only at h1; omega
          rcases b5 with _ | _
          · skip
            go_wp2_with fail
            go_ret
            exact ⟨rfl, unhide HB34⟩
          · skip
            have hay := (add_yes (xs := tu) (x := xu) (y := yu) (by rw [hvb])).2
            rw [hvb] at hay
            simp only at hay
            have x0 : w34.cell? ⟨gx, 0, none⟩ = some (.int .i64 xu) := WhlO.cell (unhide OKX_34) 0
            have x1 : w34.cell? ⟨gx, 1, none⟩ = some (.int .i64 yu) := WhlO.cell (unhide OKX_34) 1
            go_wp2_with fail
            clear x0 x1
            have HT35 := hide (implTrueTick_any Av nv cv vs xu w34 (unhide Ov_34).rp hvl)
            rw [hay] at HT35
            refine (unhide HT35).mono ?_
            rintro e w35 ⟨rfl, hb⟩
            have HB35 := hide (below_next (unhide HB34) hb)
            have OKX_35 := hide ((unhide OKX_34).below hb (Nat.le_refl _))
            clear OKX_34
            have Ov_35 := hide ((unhide Ov_34).below hb (Nat.le_refl _))
            clear Ov_34
            clear hb 
            clear HT35
            have x0 : w35.cell? ⟨gx, 0, none⟩ = some (.int .i64 xu) := WhlO.cell (unhide OKX_35) 0
            have x1 : w35.cell? ⟨gx, 1, none⟩ = some (.int .i64 yu) := WhlO.cell (unhide OKX_35) 1
            have r2 : (yu == yu) = true := by simp
            go_wp2_with fail
            go_ret
            exact ⟨rfl, unhide HB35⟩
end Go.Proofs.Ytmpgafanlgnpeaa
