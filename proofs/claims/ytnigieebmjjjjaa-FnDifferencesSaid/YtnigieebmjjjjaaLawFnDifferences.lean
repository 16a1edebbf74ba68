/- The walk of the law FnDifferences: it says true, at every input; what was there stays as it was. (By gen_FnDifferences.py.) -/
import Derived.Test.YtnigieebmjjjjaaProg
import Derived.Test.YtnigieebmjjjjaaDrawQ
import Derived.Deep.DeepCutAuto
namespace Go.Proofs.Ytnigieebmjjjjaa
open Go.RowKit
set_option linter.unusedVariables false

theorem bool_same (b : Bool) : (b != b) = false := by simp
theorem bool_same' (b : Bool) : (b == b) = true := by simp
set_option maxHeartbeats 4000000 in
set_option maxRecDepth 100000 in
theorem law_FnDifferences (A : Option Addr) (n c : Nat) (xs : List Int) (w : World) (hr : RB w w.heap.size A n xs) :
    Calls Try.prog 13 #[.slice A n c] w fun e w' => e = .returned (.bool true) ∧ Below w.heap.size w w' := by
  have HR := hide (fun (W : World) (hb : Below w.heap.size w W) => RB.later hr hb)
  have HB0 := hide (Below.refl w.heap.size w)
  clear hr
  go_enter Try.func13, Try.ntmps13
  go_wp2_with fail
  refine (vBig_any A n c w).mono ?_
  rintro e w1 ⟨rfl, rfl⟩
  by_cases hbig : 65536 < n
  · have hbt : decide (65536 < n) = true := by simpa using hbig
    go_wp2_with fail
    go_ret
    exact ⟨rfl, Below.refl _ _⟩
  have hbt : decide (65536 < n) = false := by simpa using hbig
  have hn : n ≤ 65536 := by omega
  clear hbig
  go_wp2_with fail
  refine (drawDifferences_any A n c xs _ (unhide HR _ (unhide HB0)) hn).mono ?_
  rintro e w1 ⟨As, ns, cs, ls, rfl, hO, hns, hys, hb⟩
  have HB1 := hide (below_next (unhide HB0) hb)
  have Os_1 := hide hO
  clear hb hO
  have HLNs := hide ((unhide Os_1)).len
  go_wp2_with fail
  obtain ⟨ds, b, hds, hbs⟩ : ∃ ds b, (if smpB ls = true then diffI ls else []) = ds ∧ smpB ls = b := ⟨_, _, rfl, rfl⟩
  have HT2 := hide (implDifferences_any As ns cs ls w1 (unhide Os_1).ri (by omega))
  rw [hds, hbs] at HT2
  refine (unhide HT2).mono ?_
  rintro e w2 ⟨Ad, nd, cd, rfl, hO, hb⟩
  have HB2 := hide (below_next (unhide HB1) hb)
  have Os_2 := hide ((unhide Os_1).below hb (Nat.le_refl _))
  clear Os_1
  have Od_2 := hide hO
  clear hb hO
  clear HT2
  go_wp2_with fail
  have e1 := bool_same b
  have HT3 := hide (specDifferences_any As ns cs ls w2 (unhide Os_2).ri (by omega))
  rw [hds, hbs] at HT3
  refine (unhide HT3).mono ?_
  rintro e w3 ⟨Ae, ne, ce, rfl, hO, hb⟩
  have HB3 := hide (below_next (unhide HB2) hb)
  have Os_3 := hide ((unhide Os_2).below hb (Nat.le_refl _))
  clear Os_2
  have Od_3 := hide ((unhide Od_2).below hb (Nat.le_refl _))
  clear Od_2
  have Oe_3 := hide hO
  clear hb hO
  clear HT3
  go_wp2_with fail
  have e2 : (ds == ds) = true := by simp
  refine (vInts_any Ad Ae nd ne cd ce _ _ ds ds _ (unhide Od_3).ri (unhide Oe_3).ri (unhide Od_3).max (unhide Oe_3).max).mono ?_
  rintro e w4 ⟨rfl, hb⟩
  have HB4 := hide (below_next (unhide HB3) hb)
  have Os_4 := hide ((unhide Os_3).below hb (Nat.le_refl _))
  clear Os_3
  have Od_4 := hide ((unhide Od_3).below hb (Nat.le_refl _))
  clear Od_3
  have Oe_4 := hide ((unhide Oe_3).below hb (Nat.le_refl _))
  clear Oe_3
  clear hb 
  clear Oe_4
  go_upto_if 58 with (fail)
  go_cut [] (fun wx => Hid (Below w.heap.size w wx))
  case first =>
    rcases b with _ | _
    · skip
      go_wp2_with fail
      go_meet
      exact unhide HB4
    · skip
      obtain rfl : ds = diffI ls := by rw [← hds, if_pos hbs]
      have HSM := hide hbs
      have HND : Hid (nd = ns) := by have := ((unhide Od_4)).len; rw [diffI_len, unhide HLNs] at this; exact this.symm
      have hnd2 : nd ≤ 200 := by have := unhide HND; omega
      clear hds hbs e1
      go_wp2_with fail
      have HT5 := hide (implFromDifferences_any Ad nd cd (diffI ls) w4 (unhide Od_4).ri (by omega))
      rw [from_diff (unhide HSM), if_pos rfl, read_diff (unhide HSM)] at HT5
      refine (unhide HT5).mono ?_
      rintro e w5 ⟨Af, nf, cf, rfl, hO, hb⟩
      have HB5 := hide (below_next (unhide HB4) hb)
      have Os_5 := hide ((unhide Os_4).below hb (Nat.le_refl _))
      clear Os_4
      have Od_5 := hide ((unhide Od_4).below hb (Nat.le_refl _))
      clear Od_4
      have Of_5 := hide hO
      clear hb hO
      clear HT5
      go_wp2_with fail
      have e3 : (ls == ls) = true := by simp
      refine (vInts_any Af As nf ns cf cs _ _ ls ls _ (unhide Of_5).ri (unhide Os_5).ri (unhide Of_5).max (unhide Os_5).max).mono ?_
      rintro e w6 ⟨rfl, hb⟩
      have HB6 := hide (below_next (unhide HB5) hb)
      have Os_6 := hide ((unhide Os_5).below hb (Nat.le_refl _))
      clear Os_5
      have Od_6 := hide ((unhide Od_5).below hb (Nat.le_refl _))
      clear Od_5
      have Of_6 := hide ((unhide Of_5).below hb (Nat.le_refl _))
      clear Of_5
      clear hb 
      clear Of_6
      go_wp2_with fail
      go_loopw [10, 11] (fun v i wr => ∃ k : Nat, k ≤ nd ∧ i = .int .i64 k ∧ v = .int .i64 ((packK ls k).length : Nat) ∧ Hid (Below w6.heap.size w6 wr)) (fun _ i _ => nd - (intOf i).toNat)
      case atStart => exact ⟨0, Nat.zero_le _, rfl, by simp [packK], Below.refl _ _⟩
      case round =>
        obtain ⟨k, hk, rfl, rfl, hB⟩ := hrel
        by_cases hlt : k < nd
        · skip
          obtain ⟨ad, x, rfl, hbx, hx, hc0⟩ := (((unhide Od_6).below (unhide hB) (Nat.le_refl _)).ri).get hlt
          have hxr := diff_all (unhide HSM) x (List.mem_of_getElem? (unhide hx))
          have HP := hide (packK_step ls k x (unhide hx))
          have HPL := hide (packK_len ls k)
          have hin : inB x (-200000) 200000 = true := inB_iff.2 hxr
          have l1 : (k : Int) < (nd : Int) := by omega
          have l2 : (0 : Int) ≤ (k : Int) := by omega
          have HT := hide (implPackedWidth_any x wr)
          rw [hin, if_pos rfl] at HT
          have HBL := bytesI_len (foldI x)
          generalize hm : (bytesI (foldI x)).length = m at HT HBL
          have HP2 : Hid ((packK ls (k + 1)).length = (packK ls k).length + m) := by unfold Hid; rw [unhide HP, List.length_append, hm]
          have hpl := unhide HPL
          clear hx hxr hin HP hm
          go_wp2_with fail
          refine (unhide HT).mono ?_
          rintro e wt ⟨rfl, hb⟩
          have HBt := hide (below_next (unhide hB) hb)
          clear hb hc0 HT
          go_wp2_with fail
          go_roundw
          case rel => exact ⟨k + 1, by omega, by go_num, by rw [unhide HP2]; go_num, HBt⟩
          case measure => simp [intOf]; omega
        · skip
          obtain rfl : k = nd := by omega
          have HBn := hide (below_next (unhide HB6) (unhide hB))
          have On := hide ((unhide Os_6).below (unhide hB) (Nat.le_refl _))
          have HT := hide (implPackSamples_any As ns cs ls wr (unhide On).ri (by omega))
          rw [unhide HSM, if_pos rfl] at HT
          have HE : Hid (packK ls k = packI ls) := packK_end ls k (by have := unhide HLNs; have := unhide HND; omega)
          have l1 : ¬ (k : Int) < (k : Int) := by omega
          go_wp2_with fail
          refine (unhide HT).mono ?_
          rintro e wt ⟨Ap, np, cp, rfl, hO, hb⟩
          have HBt := hide (below_next (unhide HBn) hb)
          obtain rfl : np = (packK ls k).length := by rw [unhide HE]; exact hO.len.symm
          have e4 : (((packK ls k).length : Int) != ((packK ls k).length : Int)) = false := by simp
          clear hO hb HT
          go_wp2_with fail
          go_meet
          exact unhide HBt
  case rest =>
    generalize wc = w13 at *
    have HB13 := hide hcut
    clear hcut
    go_wp2_with fail
    refine (drawFoldedOf_any A n c xs _ (unhide HR _ (unhide HB13)) hn).mono ?_
    rintro e w14 ⟨d, rfl, hd, hb⟩
    have HB14 := hide (below_next (unhide HB13) hb)
    clear hb 
    obtain ⟨fo, t2, hfo, ht2⟩ : ∃ fo t, (if inB d (-200000) 200000 = true then foldI d else 0) = fo ∧ inB d (-200000) 200000 = t := ⟨_, _, rfl, rfl⟩
    have hf0 : 0 ≤ fo := by rw [← hfo]; split; exact foldI_nonneg d; omega
    have HF1 : Hid (t2 = true → fo = foldI d) := fun h => by rw [← hfo, ht2, if_pos h]
    obtain ⟨wi, hwi⟩ : ∃ v, (if inB d (-200000) 200000 = true then ((bytesI (foldI d)).length : Int) else 0) = v := ⟨_, rfl⟩
    go_wp2_with fail
    have HT15 := hide (implFoldedOf_any d w14)
    rw [hfo, ht2] at HT15
    refine (unhide HT15).mono ?_
    rintro e w15 ⟨rfl, hb⟩
    have HB15 := hide (below_next (unhide HB14) hb)
    clear hb 
    clear HT15
    go_wp2_with fail
    have f1 : (fo != fo) = false := by simp
    have f2 := bool_same t2
    have HT16 := hide (specFoldedOf_any d w15)
    rw [hfo, ht2] at HT16
    refine (unhide HT16).mono ?_
    rintro e w16 ⟨rfl, hb⟩
    have HB16 := hide (below_next (unhide HB15) hb)
    clear hb 
    clear HT16
    go_upto_region 26 with (fail)
    go_cut [138] (fun v wx => v = .bool false ∧ wx = w16)
    case first =>
      have f3 : ¬ fo < 0 := by omega
      rcases t2 with _ | _
      · go_wp2_with fail
        go_meet
        exact ⟨rfl, rfl⟩
      · have h9 := unhide HF1 rfl
        have h8 := fold_sign d
        rw [← h9] at h8
        by_cases hd0 : d < 0
        · have f4 : fo % 2 = 1 := h8.2 hd0
          have f5 : fo.tmod 2 = 1 := by rw [Int.tmod_eq_emod_of_nonneg hf0]; exact f4
          clear h8 h9
          go_wp2_with fail
          go_meet
          exact ⟨rfl, rfl⟩
        · have f4 : fo % 2 = 0 := by have : ¬ fo % 2 = 1 := fun h => hd0 (h8.1 h); omega
          have f5 : fo.tmod 2 = 0 := by rw [Int.tmod_eq_emod_of_nonneg hf0]; exact f4
          clear h8 h9
          go_wp2_with fail
          go_meet
          exact ⟨rfl, rfl⟩
    case rest =>
      obtain ⟨rfl, rfl⟩ := hcut
      generalize wc = w16 at *
      clear HF1 hf0 f1
      go_wp2_with fail
      have HT17 := hide (implPackedWidth_any d w16)
      rw [hwi, ht2] at HT17
      refine (unhide HT17).mono ?_
      rintro e w17 ⟨rfl, hb⟩
      have HB17 := hide (below_next (unhide HB16) hb)
      clear hb 
      clear HT17
      go_wp2_with fail
      have f6 : (wi != wi) = false := by simp
      have HT18 := hide (specPackedWidth_any d w17)
      rw [hwi, ht2] at HT18
      refine (unhide HT18).mono ?_
      rintro e w18 ⟨rfl, hb⟩
      have HB18 := hide (below_next (unhide HB17) hb)
      clear hb 
      clear HT18
      go_wp2_with fail
      clear hd hfo ht2 hwi f6
      refine (drawFromDifferences_any A n c xs _ (unhide HR _ (unhide HB18)) hn).mono ?_
      rintro e w19 ⟨Ax, nx, cx, lx, rfl, hO, hnx, hyx, hb⟩
      have HB19 := hide (below_next (unhide HB18) hb)
      have Ox_19 := hide hO
      clear hb hO
      have HLNx := hide ((unhide Ox_19)).len
      go_wp2_with fail
      obtain ⟨ys, b3, hys, hb3⟩ : ∃ ds b, (if fromB lx = true then readI lx else []) = ds ∧ fromB lx = b := ⟨_, _, rfl, rfl⟩
      have HT20 := hide (implFromDifferences_any Ax nx cx lx w19 (unhide Ox_19).ri (by omega))
      rw [hys, hb3] at HT20
      refine (unhide HT20).mono ?_
      rintro e w20 ⟨Ay, ny, cy, rfl, hO, hb⟩
      have HB20 := hide (below_next (unhide HB19) hb)
      have Ox_20 := hide ((unhide Ox_19).below hb (Nat.le_refl _))
      clear Ox_19
      have Oy_20 := hide hO
      clear hb hO
      clear HT20
      go_wp2_with fail
      have g1 := bool_same b3
      have HT21 := hide (specFromDifferences_any Ax nx cx lx w20 (unhide Ox_20).ri (by omega))
      rw [hys, hb3] at HT21
      refine (unhide HT21).mono ?_
      rintro e w21 ⟨Az, nz, cz, rfl, hO, hb⟩
      have HB21 := hide (below_next (unhide HB20) hb)
      have Ox_21 := hide ((unhide Ox_20).below hb (Nat.le_refl _))
      clear Ox_20
      have Oy_21 := hide ((unhide Oy_20).below hb (Nat.le_refl _))
      clear Oy_20
      have Oz_21 := hide hO
      clear hb hO
      clear HT21
      clear Ox_21
      go_wp2_with fail
      have g2 : (ys == ys) = true := by simp
      refine (vInts_any Ay Az ny nz cy cz _ _ ys ys _ (unhide Oy_21).ri (unhide Oz_21).ri (unhide Oy_21).max (unhide Oz_21).max).mono ?_
      rintro e w22 ⟨rfl, hb⟩
      have HB22 := hide (below_next (unhide HB21) hb)
      have Oy_22 := hide ((unhide Oy_21).below hb (Nat.le_refl _))
      clear Oy_21
      have Oz_22 := hide ((unhide Oz_21).below hb (Nat.le_refl _))
      clear Oz_21
      clear hb 
      clear Oy_22
      clear Oz_22
      go_wp2_with fail
      refine (drawWidthCounts_any A n c xs _ (unhide HR _ (unhide HB22)) hn).mono ?_
      rintro e w23 ⟨Av, nv, cv, lv, rfl, hO, hnv, hyv, hb⟩
      have HB23 := hide (below_next (unhide HB22) hb)
      have Ov_23 := hide hO
      clear hb hO
      have HLNv := hide ((unhide Ov_23)).len
      go_wp2_with fail
      obtain ⟨zs, b4, hzs, hb4⟩ : ∃ ds b, (if smpB lv = true then cntI lv else []) = ds ∧ smpB lv = b := ⟨_, _, rfl, rfl⟩
      have HT24 := hide (implWidthCounts_any Av nv cv lv w23 (unhide Ov_23).ri (by omega))
      rw [hzs, hb4] at HT24
      refine (unhide HT24).mono ?_
      rintro e w24 ⟨Ap, np, cp, rfl, hO, hb⟩
      have HB24 := hide (below_next (unhide HB23) hb)
      have Ov_24 := hide ((unhide Ov_23).below hb (Nat.le_refl _))
      clear Ov_23
      have Op_24 := hide hO
      clear hb hO
      clear HT24
      go_wp2_with fail
      have g3 := bool_same' b4
      have HT25 := hide (specWidthCounts_any Av nv cv lv w24 (unhide Ov_24).ri (by omega))
      rw [hzs, hb4] at HT25
      refine (unhide HT25).mono ?_
      rintro e w25 ⟨Aq, nq, cq, rfl, hO, hb⟩
      have HB25 := hide (below_next (unhide HB24) hb)
      have Ov_25 := hide ((unhide Ov_24).below hb (Nat.le_refl _))
      clear Ov_24
      have Op_25 := hide ((unhide Op_24).below hb (Nat.le_refl _))
      clear Op_24
      have Oq_25 := hide hO
      clear hb hO
      clear HT25
      clear Ov_25
      go_wp2_with fail
      have g4 : (zs == zs) = true := by simp
      refine (vInts_any Ap Aq np nq cp cq _ _ zs zs _ (unhide Op_25).ri (unhide Oq_25).ri (unhide Op_25).max (unhide Oq_25).max).mono ?_
      rintro e w26 ⟨rfl, hb⟩
      have HB26 := hide (below_next (unhide HB25) hb)
      have Op_26 := hide ((unhide Op_25).below hb (Nat.le_refl _))
      clear Op_25
      have Oq_26 := hide ((unhide Oq_25).below hb (Nat.le_refl _))
      clear Oq_25
      clear hb 
      go_wp2_with fail
      go_ret
      exact ⟨rfl, unhide HB26⟩
end Go.Proofs.Ytnigieebmjjjjaa
