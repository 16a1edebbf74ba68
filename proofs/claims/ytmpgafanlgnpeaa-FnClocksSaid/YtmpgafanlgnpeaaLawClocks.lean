/- The walk of the law FnClocks: it says true, at every input; what was there stays as it was. (By gen_FnClocks.py.) -/
import Derived.Test.YtmpgafanlgnpeaaProg
import Derived.Test.YtmpgafanlgnpeaaDrawL
import Derived.Test.YtmpgafanlgnpeaaClkLaw
import Derived.Deep.DeepCutAuto
namespace Go.Proofs.Ytmpgafanlgnpeaa
open Go.RowKit
set_option linter.unusedVariables false

set_option maxHeartbeats 4000000 in
set_option maxRecDepth 100000 in
theorem law_Clocks (A : Option Addr) (n c : Nat) (xs : List Int) (w : World) (hr : RB w w.heap.size A n xs) :
    Calls Try.prog 13 #[.slice A n c] w fun e w' => e = .returned (.bool true) ∧ Below w.heap.size w w' := by
  have HR := hide (fun (W : World) (hb : Below w.heap.size w W) => RB.later hr hb)
  have HB0 := hide (Below.refl w.heap.size w)
  clear hr
  go_enter Try.func13, Try.ntmps13
  go_wp2_with fail
  refine (rBig_any A n c w).mono ?_
  rintro e w1 ⟨rfl, rfl⟩
  by_cases hbig : 65536 < n
  · have hbt : decide (65536 < n) = true := by simpa using hbig
    go_wp2_with fail
    go_ret
    exact ⟨rfl, Below.refl _ _⟩
  have hbt : decide (65536 < n) = false := by simpa using hbig
  have hn : n ≤ 65536 := by omega
  clear hbig
  go_wp2_with fail
  refine (drawTrueTick_any A n c xs _ (unhide HR _ (unhide HB0)) hn).mono ?_
  rintro e w1 ⟨Aa, na, ca, ta, xa, rfl, hO, hna, hb⟩
  have HB1 := hide (below_next (unhide HB0) hb)
  have Oa_1 := hide hO
  clear hb hO
  go_wp2_with fail
  obtain ⟨v, b, hvb⟩ : ∃ v b, tickR ta xa = (v, b) := ⟨_, _, rfl⟩
  have HV := hide hvb
  have HT2 := hide (implTrueTick_any Aa na ca ta xa w1 (unhide Oa_1).rp (by omega))
  rw [hvb] at HT2
  refine (unhide HT2).mono ?_
  rintro e w2 ⟨rfl, hb⟩
  have HB2 := hide (below_next (unhide HB1) hb)
  have Oa_2 := hide ((unhide Oa_1).below hb (Nat.le_refl _))
  clear Oa_1
  clear hb 
  clear HT2
  go_wp2_with fail
  have e1 : (v != v) = false := by simp
  have e2 : (b != b) = false := by simp
  have HT3 := hide (specTrueTick_any Aa na ca ta xa w2 (unhide Oa_2).rp (by omega))
  rw [hvb] at HT3
  refine (unhide HT3).mono ?_
  rintro e w3 ⟨rfl, hb⟩
  have HB3 := hide (below_next (unhide HB2) hb)
  have Oa_3 := hide ((unhide Oa_2).below hb (Nat.le_refl _))
  clear Oa_2
  clear hb 
  clear HT3
  go_upto_if 64 with (fail)
  go_cut [] (fun wx => Hid (Below w.heap.size w wx))
  case first =>
    rcases b with _ | _
    · skip
      go_wp2_with fail
      go_meet
      exact unhide HB3
    · skip
      have hy : (tickR ta xa).2 = true := by rw [hvb]
      obtain ⟨hk, ⟨hs0, hs1⟩, _, _⟩ := tickR_yes hy
      have HLA := hide ((unhide Oa_3)).len
      have HK := hide hk
      clear hk hvb hy
      go_wp2_with fail
      go_loopw [9] (fun i wr => ∃ k : Nat, k ≤ na ∧ i = .int .i64 k ∧ Hid (Below w3.heap.size w3 wr)) (fun i _ => na - (intOf i).toNat)
      case atStart => exact ⟨0, Nat.zero_le _, rfl, Below.refl _ _⟩
      case round =>
        obtain ⟨k, hk, rfl, hB⟩ := hrel
        by_cases hlt : k < na
        · skip
          obtain ⟨ad, p, q, rfl, hbx, hx, hc0, hc1⟩ := (((unhide Oa_3).below (unhide hB) (Nat.le_refl _)).rp).get hlt
          have hm := tick_mark (unhide HK) (unhide hx)
          have l1 : (k : Int) < (na : Int) := by omega
          have l2 : (0 : Int) ≤ (k : Int) := by omega
          have HT := hide (implTrueTick_any (some ad) na ca ta p wr ((unhide Oa_3).below (unhide hB) (Nat.le_refl _)).rp (by omega))
          rw [hm] at HT
          clear hx hm
          go_wp2_with fail
          refine (unhide HT).mono ?_
          rintro e wt ⟨rfl, hb⟩
          have HBt := hide (below_next (unhide hB) hb)
          have d1 : wt.cell? ⟨(ad.add (k * 2)).block, (ad.add (k * 2)).off + 1, none⟩ = some (.int .i64 q) := (hb.cell (p := ⟨(ad.add (k * 2)).block, (ad.add (k * 2)).off + 1, none⟩) (by rw [block_of_add]; exact hbx)).trans hc1
          have e3 : (q != q) = false := by simp
          clear hb hc0 hc1 HT
          go_wp2_with fail
          go_roundw
          case rel => exact ⟨k + 1, by omega, by go_num, HBt⟩
          case measure => simp [intOf]; omega
        · skip
          have HBn := hide (below_next (unhide HB3) (unhide hB))
          have On := hide ((unhide Oa_3).below (unhide hB) (Nat.le_refl _))
          obtain ⟨v', b', hvb'⟩ : ∃ v' b', tickR ta (xa + 1) = (v', b') := ⟨_, _, rfl⟩
          have hle : b' = true → ¬ v' < v := fun e => by
            have h8 := unhide HV
            have h9 := tick_later (xs := ta) (s := xa) (by rw [h8]) (by rw [hvb', e])
            rw [h8, hvb'] at h9
            simp only at h9
            omega
          have HT := hide (implTrueTick_any Aa na ca ta (xa + 1) wr (unhide On).rp (by omega))
          rw [hvb'] at HT
          have l1 : ¬ (k : Int) < (na : Int) := by omega
          clear hvb' hlt hk
          go_wp2_with fail
          refine (unhide HT).mono ?_
          rintro e wt ⟨rfl, hb⟩
          have HBt := hide (below_next (unhide HBn) hb)
          clear hb HT
          rcases b' with _ | _
          · go_wp2_with fail
            go_meet
            exact unhide HBt
          · have hle2 : ¬ v' < v := by have := hle rfl; omega
            go_wp2_with fail
            go_meet
            exact unhide HBt
  case rest =>
    generalize wc = w9 at *
    have HB9 := hide hcut
    clear hcut
    go_wp2_with fail
    refine (drawShownTick_any A n c xs _ (unhide HR _ (unhide HB9)) hn).mono ?_
    rintro e w10 ⟨Al, nl, cl, tl, xl, rfl, hO, hnl, hb⟩
    have HB10 := hide (below_next (unhide HB9) hb)
    have Ol_10 := hide hO
    clear hb hO
    go_wp2_with fail
    obtain ⟨v2, b2, hvb2⟩ : ∃ v b, shownR tl xl = (v, b) := ⟨_, _, rfl⟩
    have HT11 := hide (implShownTick_any Al nl cl tl xl w10 (unhide Ol_10).rp (by omega))
    rw [hvb2] at HT11
    refine (unhide HT11).mono ?_
    rintro e w11 ⟨rfl, hb⟩
    have HB11 := hide (below_next (unhide HB10) hb)
    have Ol_11 := hide ((unhide Ol_10).below hb (Nat.le_refl _))
    clear Ol_10
    clear hb 
    clear HT11
    go_wp2_with fail
    have e4 : (v2 != v2) = false := by simp
    have e5 : (b2 != b2) = false := by simp
    have HT12 := hide (specShownTick_any Al nl cl tl xl w11 (unhide Ol_11).rp (by omega))
    rw [hvb2] at HT12
    refine (unhide HT12).mono ?_
    rintro e w12 ⟨rfl, hb⟩
    have HB12 := hide (below_next (unhide HB11) hb)
    have Ol_12 := hide ((unhide Ol_11).below hb (Nat.le_refl _))
    clear Ol_11
    clear hb 
    clear HT12
    go_upto_if 130 with (fail)
    go_cut [] (fun wx => Hid (Below w.heap.size w wx))
    case first =>
      rcases b2 with _ | _
      · skip
        go_wp2_with fail
        go_meet
        exact unhide HB12
      · skip
        have hy : (shownR tl xl).2 = true := by rw [hvb2]
        obtain ⟨hk, ⟨hs0, hs1⟩, hs2, hs3, hs4⟩ := shown_first hy
        rw [hvb2] at hs0 hs1 hs2 hs3 hs4
        simp only at hs0 hs1 hs2 hs3 hs4
        obtain ⟨v3, b3, hvb3⟩ : ∃ v b, tickR tl v2 = (v, b) := ⟨_, _, rfl⟩
        rw [hvb3] at hs2 hs3
        simp only at hs2 hs3
        subst hs2
        obtain ⟨v4, b4, hvb4⟩ : ∃ v b, tickR tl (v2 - 1) = (v, b) := ⟨_, _, rfl⟩
        rw [hvb4] at hs4
        simp only at hs4
        have HS4 := hide hs4
        have hs5 : ¬ v3 < xl := by omega
        clear hs4 hs3 hk hy hvb2
        go_wp2_with fail
        have HT13 := hide (implTrueTick_any Al nl cl tl v2 w12 (unhide Ol_12).rp (by omega))
        rw [hvb3] at HT13
        refine (unhide HT13).mono ?_
        rintro e w13 ⟨rfl, hb⟩
        have HB13 := hide (below_next (unhide HB12) hb)
        have Ol_13 := hide ((unhide Ol_12).below hb (Nat.le_refl _))
        clear Ol_12
        clear hb 
        clear HT13
        go_wp2_with fail
        have HT14 := hide (implTrueTick_any Al nl cl tl (v2 - 1) w13 (unhide Ol_13).rp (by omega))
        rw [hvb4] at HT14
        refine (unhide HT14).mono ?_
        rintro e w14 ⟨rfl, hb⟩
        have HB14 := hide (below_next (unhide HB13) hb)
        have Ol_14 := hide ((unhide Ol_13).below hb (Nat.le_refl _))
        clear Ol_13
        clear hb 
        clear HT14
        rcases b4 with _ | _
        · skip
          go_wp2_with fail
          go_meet
          exact unhide HB14
        · skip
          have hs6 : ¬ v4 ≥ xl := by have := unhide HS4 rfl; omega
          go_wp2_with fail
          go_meet
          exact unhide HB14
    case rest =>
      generalize wc = w18 at *
      have HB18 := hide hcut
      clear hcut
      go_wp2_with fail
      refine (drawSpanOffsets_any A n c xs _ (unhide HR _ (unhide HB18)) hn).mono ?_
      rintro e w19 ⟨Au, nu, cu, tu, rfl, hO, hnu, hb⟩
      have HB19 := hide (below_next (unhide HB18) hb)
      have Ou_19 := hide hO
      clear hb hO
      go_wp2_with fail
      obtain ⟨v5, u5, b5, hvb5⟩ : ∃ v u b, spanR tu = (v, u, b) := ⟨_, _, _, rfl⟩
      have hb5 : trkB tu = b5 := by have := span_told tu; rw [hvb5] at this; exact this.symm
      have HT20 := hide (implSpan_any Au nu cu tu w19 (unhide Ou_19).rp (by omega))
      rw [hvb5] at HT20
      refine (unhide HT20).mono ?_
      rintro e w20 ⟨rfl, hb⟩
      have HB20 := hide (below_next (unhide HB19) hb)
      have Ou_20 := hide ((unhide Ou_19).below hb (Nat.le_refl _))
      clear Ou_19
      clear hb 
      clear HT20
      go_wp2_with fail
      have e6 : (v5 != v5) = false := by simp
      have e7 : (u5 != u5) = false := by simp
      have e8 : (b5 != b5) = false := by simp
      have HT21 := hide (specSpan_any Au nu cu tu w20 (unhide Ou_20).rp (by omega))
      rw [hvb5] at HT21
      refine (unhide HT21).mono ?_
      rintro e w21 ⟨rfl, hb⟩
      have HB21 := hide (below_next (unhide HB20) hb)
      have Ou_21 := hide ((unhide Ou_20).below hb (Nat.le_refl _))
      clear Ou_20
      clear hb 
      clear HT21
      go_wp2_with fail
      have HT22 := hide (implIsTrack_any Au nu cu tu w21 (unhide Ou_21).rp (by omega))
      rw [hb5] at HT22
      refine (unhide HT22).mono ?_
      rintro e w22 ⟨rfl, hb⟩
      have HB22 := hide (below_next (unhide HB21) hb)
      have Ou_22 := hide ((unhide Ou_21).below hb (Nat.le_refl _))
      clear Ou_21
      clear hb 
      clear Ou_22
      go_wp2_with fail
      refine (drawStepAt_any A n c xs _ (unhide HR _ (unhide HB22)) hn).mono ?_
      rintro e w23 ⟨Av, nv, cv, tv, xv, rfl, hO, hnv, hb⟩
      have HB23 := hide (below_next (unhide HB22) hb)
      have Ov_23 := hide hO
      clear hb hO
      go_wp2_with fail
      obtain ⟨ys, b6, hvb6⟩ : ∃ v b, stepR tv xv = (v, b) := ⟨_, _, rfl⟩
      have HYL : Hid (ys.length ≤ 2097152) := by have := steps_len tv xv; rw [hvb6] at this; exact this
      have HT24 := hide (implStepAt_any Av nv cv tv xv w23 (unhide Ov_23).rp (by omega))
      rw [hvb6] at HT24
      refine (unhide HT24).mono ?_
      rintro e w24 ⟨Ay, ny, cy, rfl, hO, hb⟩
      have HB24 := hide (below_next (unhide HB23) hb)
      have Ov_24 := hide ((unhide Ov_23).below hb (Nat.le_refl _))
      clear Ov_23
      have Oy_24 := hide hO
      clear hb hO
      go_wp2_with fail
      have e9 : (b6 == b6) = true := by simp
      have HT25 := hide (specStepAt_any Av nv cv tv xv w24 (unhide Ov_24).rp (by omega))
      rw [hvb6] at HT25
      refine (unhide HT25).mono ?_
      rintro e w25 ⟨Az, nz, cz, rfl, hO, hb⟩
      have HB25 := hide (below_next (unhide HB24) hb)
      have Ov_25 := hide ((unhide Ov_24).below hb (Nat.le_refl _))
      clear Ov_24
      have Oy_25 := hide ((unhide Oy_24).below hb (Nat.le_refl _))
      clear Oy_24
      have Oz_25 := hide hO
      clear hb hO
      go_wp2_with fail
      clear Ov_25
      refine (rInts_any Ay Az ny nz cy cz _ _ ys ys _ (unhide Oy_25).ri (unhide Oz_25).ri (unhide Oy_25).max (unhide Oz_25).max).mono ?_
      rintro e w26 ⟨rfl, hb⟩
      have HB26 := hide (below_next (unhide HB25) hb)
      have Oy_26 := hide ((unhide Oy_25).below hb (Nat.le_refl _))
      clear Oy_25
      have Oz_26 := hide ((unhide Oz_25).below hb (Nat.le_refl _))
      clear Oz_25
      clear hb 
      have e10 : (ys == ys) = true := by simp
      go_wp2_with fail
      go_ret
      exact ⟨rfl, unhide HB26⟩
end Go.Proofs.Ytmpgafanlgnpeaa
