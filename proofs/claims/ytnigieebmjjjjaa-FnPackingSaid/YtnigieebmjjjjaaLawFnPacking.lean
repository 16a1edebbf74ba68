/- The walk of the law FnPacking: it says true, at every input; what was there stays as it was. (By gen_FnPacking.py.) -/
import Derived.Test.YtnigieebmjjjjaaProg
import Derived.Test.YtnigieebmjjjjaaDrawQ
import Derived.Test.YtnigieebmjjjjaaDrawR
import Derived.Test.YtnigieebmjjjjaaAbove
import Derived.Deep.DeepCutAuto
namespace Go.Proofs.Ytnigieebmjjjjaa
open Go.RowKit
set_option linter.unusedVariables false

theorem bool_same (b : Bool) : (b != b) = false := by simp
theorem bool_same' (b : Bool) : (b == b) = true := by simp
set_option maxHeartbeats 4000000 in
set_option maxRecDepth 100000 in
theorem law_FnPacking (A : Option Addr) (n c : Nat) (xs : List Int) (w : World) (hr : RB w w.heap.size A n xs) :
    Calls Try.prog 12 #[.slice A n c] w fun e w' => e = .returned (.bool true) ∧ Below w.heap.size w w' := by
  have HR := hide (fun (W : World) (hb : Below w.heap.size w W) => RB.later hr hb)
  have HB0 := hide (Below.refl w.heap.size w)
  clear hr
  go_enter Try.func12, Try.ntmps12
  go_wp2_with fail
  refine (vBig_any A n c w).mono ?_
  rintro e w1 ⟨rfl, rfl⟩
  by_cases hbig : 65536 < n
  · have hbt : decide (65536 < n) = true := by simpa using hbig
    go_wp2_with fail
    go_ret
    exact ⟨rfl, Below.refl _ _⟩
  have hbt : decide (65536 < n) = false := by simpa using hbig
  have hn : n ≤ 65536 := by omega
  clear hbig
  go_wp2_with fail
  refine (drawPackSamples_any A n c xs _ (unhide HR _ (unhide HB0)) hn).mono ?_
  rintro e w1 ⟨As, ns, cs, ls, rfl, hO, hns, hys, hb⟩
  have HB1 := hide (below_next (unhide HB0) hb)
  have Os_1 := hide hO
  clear hb hO
  have HLNs := hide ((unhide Os_1)).len
  go_wp2_with fail
  obtain ⟨ds, b, hds, hbs⟩ : ∃ ds b, (if smpB ls = true then packI ls else []) = ds ∧ smpB ls = b := ⟨_, _, rfl, rfl⟩
  have HT2 := hide (implPackSamples_any As ns cs ls w1 (unhide Os_1).ri (by omega))
  rw [hds, hbs] at HT2
  refine (unhide HT2).mono ?_
  rintro e w2 ⟨Ad, nd, cd, rfl, hO, hb⟩
  have HB2 := hide (below_next (unhide HB1) hb)
  have Os_2 := hide ((unhide Os_1).below hb (Nat.le_refl _))
  clear Os_1
  have Od_2 := hide hO
  clear hb hO
  clear HT2
  go_wp2_with fail
  have e1 := bool_same b
  have HT3 := hide (specPackSamples_any As ns cs ls w2 (unhide Os_2).ri (by omega))
  rw [hds, hbs] at HT3
  refine (unhide HT3).mono ?_
  rintro e w3 ⟨Ae, ne, ce, rfl, hO, hb⟩
  have HB3 := hide (below_next (unhide HB2) hb)
  have Os_3 := hide ((unhide Os_2).below hb (Nat.le_refl _))
  clear Os_2
  have Od_3 := hide ((unhide Od_2).below hb (Nat.le_refl _))
  clear Od_2
  have Oe_3 := hide hO
  clear hb hO
  clear HT3
  go_wp2_with fail
  have e2 : (ds == ds) = true := by simp
  refine (vInts_any Ad Ae nd ne cd ce _ _ ds ds _ (unhide Od_3).ri (unhide Oe_3).ri (unhide Od_3).max (unhide Oe_3).max).mono ?_
  rintro e w4 ⟨rfl, hb⟩
  have HB4 := hide (below_next (unhide HB3) hb)
  have Os_4 := hide ((unhide Os_3).below hb (Nat.le_refl _))
  clear Os_3
  have Od_4 := hide ((unhide Od_3).below hb (Nat.le_refl _))
  clear Od_3
  have Oe_4 := hide ((unhide Oe_3).below hb (Nat.le_refl _))
  clear Oe_3
  clear hb 
  clear Oe_4
  go_upto_if 55 with (fail)
  go_cut [] (fun wx => Hid (Below w.heap.size w wx))
  case first =>
    rcases b with _ | _
    · skip
      go_wp2_with fail
      go_meet
      exact unhide HB4
    · skip
      obtain rfl : ds = packI ls := by rw [← hds, if_pos hbs]
      have HSM := hide hbs
      have HND := hide ((unhide Od_4)).len
      have hnd : nd ≤ 100 := by have := bytB_len (pack_bytes (unhide HSM)); have := unhide HND; omega
      clear hds hbs e1
      go_wp2_with fail
      have HT5 := hide (implUnpackSamples_any Ad nd cd (packI ls) w4 (unhide Od_4).ri (unhide Od_4).cap (by omega))
      rw [(unpack_pack (unhide HSM)).1, if_pos rfl, (unpack_pack (unhide HSM)).2] at HT5
      refine (unhide HT5).mono ?_
      rintro e w5 ⟨Af, nf, cf, rfl, hO, hb⟩
      have HB5 := hide (below_next (unhide HB4) hb)
      have Os_5 := hide ((unhide Os_4).below hb (Nat.le_refl _))
      clear Os_4
      have Od_5 := hide ((unhide Od_4).below hb (Nat.le_refl _))
      clear Od_4
      have Of_5 := hide hO
      clear hb hO
      clear HT5
      go_wp2_with fail
      have HT6 := hide (implWidthCounts_any As ns cs ls w5 (unhide Os_5).ri (by omega))
      rw [unhide HSM, if_pos rfl] at HT6
      refine (unhide HT6).mono ?_
      rintro e w6 ⟨Ak, nk, ck, rfl, hO, hb⟩
      have HB6 := hide (below_next (unhide HB5) hb)
      have Os_6 := hide ((unhide Os_5).below hb (Nat.le_refl _))
      clear Os_5
      have Od_6 := hide ((unhide Od_5).below hb (Nat.le_refl _))
      clear Od_5
      have Of_6 := hide ((unhide Of_5).below hb (Nat.le_refl _))
      clear Of_5
      have Ok_6 := hide hO
      clear hb hO
      clear HT6
      have HKL : nk = 3 := by have := ((unhide Ok_6)).len; unfold cntI at this; rw [cntK_len] at this; exact this.symm
      obtain rfl := HKL
      obtain ⟨gk, hgk, hgk1, hgk2, hgk3⟩ := ((unhide Ok_6)).form (by omega)
      obtain rfl := hgk
      have HCL := cnt_law ls
      have HCB := fun j => cntK_bound ls ls.length j
      have HC3 := cntK_len ls ls.length
      have HLS := hide (smpB_len (unhide HSM))
      obtain ⟨x, y, z, hxyz⟩ : ∃ x y z, cntI ls = [x, y, z] := by
        unfold cntI
        match h : cntK ls ls.length with
        | [x, y, z] => exact ⟨x, y, z, rfl⟩
        | [] => rw [h] at HC3; simp at HC3
        | [x] => rw [h] at HC3; simp at HC3
        | [x, y] => rw [h] at HC3; simp at HC3
        | x :: y :: z :: u :: l => rw [h] at HC3; simp at HC3
      have hx := HCB 0
      have hy := HCB 1
      have hz := HCB 2
      rw [show cntK ls ls.length = [x, y, z] from hxyz] at hx hy hz
      rw [hxyz] at HCL
      simp only [List.getD_cons_zero, List.getD_cons_succ] at hx hy hz HCL
      have HOK : Hid (OwnI w6 w5.heap.size (some ⟨gk, 0, none⟩) 3 ck [x, y, z]) := by have := (unhide Ok_6); rw [hxyz] at this; exact this
      obtain ⟨hc1, hc2⟩ := HCL
      have hls := unhide HLS
      have i1 : x + y + z = (ns : Int) := by rw [hc1, unhide HLNs]
      have i2 : x + 2 * y + 3 * z = (nd : Int) := by rw [hc2, unhide HND]
      clear hc1 hc2 HCB HC3 hxyz HLS
      have k0 : ∀ s : Abv w6, s.w.cell? ⟨gk, 0, none⟩ = some (.int .i64 x) := Abv.cell hgk2 ((unhide HOK).cellOf (j := 0) rfl)
      have k1 : ∀ s : Abv w6, s.w.cell? ⟨gk, 1, none⟩ = some (.int .i64 y) := Abv.cell hgk2 ((unhide HOK).cellOf (j := 1) rfl)
      have k2 : ∀ s : Abv w6, s.w.cell? ⟨gk, 2, none⟩ = some (.int .i64 z) := Abv.cell hgk2 ((unhide HOK).cellOf (j := 2) rfl)
      have c1 := hide (fun s : Abv w6 => Calls.abv (vInts_any Af As nf ns cf cs _ _ ls ls s.w (((unhide Of_6)).ri.abv s) (((unhide Os_6)).ri.abv s) ((unhide Of_6)).max ((unhide Os_6)).max))
      have c2 := hide (fun s : Abv w6 => Calls.abv (vSum3_any (some ⟨gk, 0, none⟩) ck x y z _ s.w ((unhide HOK).ri.abv s) (by omega) (by omega) (by omega)))
      have e3 : (ls == ls) = true := by simp
      rw [e3] at c1
      rw [i1] at c2
      have i3 : (((nd : Int)) != (nd : Int)) = false := by simp
      have i4 : (((ns : Int)) != (ns : Int)) = false := by simp
      go_wp2_with fail
      refine wp_region_abv w6 (by kernel_rfl) (by kernel_rfl) (Below.refl _ _) ?_
      repeat (go_big_quiet_step ((first | (go_at_call 38; exact unhide c1 _) | (go_at_call 39; exact unhide c2 _))))
      refine wpQuiet_nil ?_
      intro _ hw'
      obtain ⟨sv, hw''⟩ := hw'
      subst hw''
      have hb := sv.h
      clear k0 k1 k2 c1 c2
      clear Of_6
      clear Ok_6
      generalize sv.w = w7 at *
      have HB7 := hide (below_next (unhide HB6) hb)
      have Os_7 := hide ((unhide Os_6).below hb (Nat.le_refl _))
      clear Os_6
      have Od_7 := hide ((unhide Od_6).below hb (Nat.le_refl _))
      clear Od_6
      clear hb
      have hcd := (unhide Od_7).cap
      have hcs := (unhide Os_7).cap
      have hq : ((nd : Int)).tdiv 2 = ((nd / 2 : Nat) : Int) := by rw [Int.tdiv_eq_ediv_of_nonneg (by omega)]; omega
      have hbt : bytB ((packI ls).take (nd / 2)) = true := bytB_take (pack_bytes (unhide HSM)) _
      obtain ⟨j, hj⟩ := read_torn (unhide HSM) (nd / 2)
      go_wp2_with fail
      have HT8 := hide (implReadableSamples_any Ad (nd / 2) cd ((packI ls).take (nd / 2)) w7 ((unhide Od_7).ri.take (by omega)) (by omega) (by omega))
      rw [hbt, if_pos rfl, hj] at HT8
      refine (unhide HT8).mono ?_
      rintro e w8 ⟨Aq, nq, cq, rfl, hO, hb⟩
      have HB8 := hide (below_next (unhide HB7) hb)
      have Os_8 := hide ((unhide Os_7).below hb (Nat.le_refl _))
      clear Os_7
      have Od_8 := hide ((unhide Od_7).below hb (Nat.le_refl _))
      clear Od_7
      have Oq_8 := hide hO
      clear hb hO
      clear HT8
      have HQ : Hid (ls.take nq = ls.take j ∧ nq ≤ ns) := by
        have h1 := (unhide Oq_8).len
        have h2 := unhide HLNs
        rw [List.length_take, h2] at h1
        refine ⟨?_, by omega⟩
        rcases Nat.le_total j ns with h3 | h3
        · rw [show nq = j by omega]
        · rw [List.take_of_length_le (by omega), List.take_of_length_le (by omega)]
      have hq2 := (unhide HQ).2
      have g1 : ¬ (ns : Int) < (nq : Int) := by omega
      have g2 : (nq : Int) ≤ (ns : Int) := by omega
      have g3 : nq ≤ cs := by omega
      have e4 : (ls.take j == ls.take j) = true := by simp
      clear hbt hj hq
      go_wp2_with fail
      have HTv := hide (vInts_any Aq As nq nq cq cs _ _ (ls.take j) (ls.take nq) w8 (unhide Oq_8).ri ((unhide Os_8).ri.take (k := nq) hq2) (unhide Oq_8).max (unhide Oq_8).max)
      rw [(unhide HQ).1] at HTv
      refine (unhide HTv).mono ?_
      rintro e w9 ⟨rfl, hb⟩
      have HB9 := hide (below_next (unhide HB8) hb)
      have Os_9 := hide ((unhide Os_8).below hb (Nat.le_refl _))
      clear Os_8
      have Od_9 := hide ((unhide Od_8).below hb (Nat.le_refl _))
      clear Od_8
      have Oq_9 := hide ((unhide Oq_8).below hb (Nat.le_refl _))
      clear Oq_8
      clear hb 
      clear HTv
      go_wp2_with fail
      go_meet
      exact unhide HB9
  case rest =>
    generalize wc = w10 at *
    have HB10 := hide hcut
    clear hcut
    go_wp2_with fail
    refine (drawUnpackSamples_any A n c xs _ (unhide HR _ (unhide HB10)) hn).mono ?_
    rintro e w11 ⟨Ax, nx, cx, lx, rfl, hO, hnx, hyx, hb⟩
    have HB11 := hide (below_next (unhide HB10) hb)
    have Ox_11 := hide hO
    clear hb hO
    have HLNx := hide ((unhide Ox_11)).len
    go_wp2_with fail
    obtain ⟨zs, b2, hzs, hb2⟩ : ∃ ds b, (if unB lx = true then readI (upI lx).1 else []) = ds ∧ unB lx = b := ⟨_, _, rfl, rfl⟩
    have HT12 := hide (implUnpackSamples_any Ax nx cx lx w11 (unhide Ox_11).ri (unhide Ox_11).cap (by omega))
    rw [hzs, hb2] at HT12
    refine (unhide HT12).mono ?_
    rintro e w12 ⟨Ay, ny, cy, rfl, hO, hb⟩
    have HB12 := hide (below_next (unhide HB11) hb)
    have Ox_12 := hide ((unhide Ox_11).below hb (Nat.le_refl _))
    clear Ox_11
    have Oy_12 := hide hO
    clear hb hO
    clear HT12
    go_wp2_with fail
    have m1 := bool_same b2
    have HT13 := hide (specUnpackSamples_any Ax nx cx lx w12 (unhide Ox_12).ri (by omega))
    rw [hzs, hb2] at HT13
    refine (unhide HT13).mono ?_
    rintro e w13 ⟨Az, nz, cz, rfl, hO, hb⟩
    have HB13 := hide (below_next (unhide HB12) hb)
    have Ox_13 := hide ((unhide Ox_12).below hb (Nat.le_refl _))
    clear Ox_12
    have Oy_13 := hide ((unhide Oy_12).below hb (Nat.le_refl _))
    clear Oy_12
    have Oz_13 := hide hO
    clear hb hO
    clear HT13
    go_wp2_with fail
    have m2 : (zs == zs) = true := by simp
    refine (vInts_any Ay Az ny nz cy cz _ _ zs zs _ (unhide Oy_13).ri (unhide Oz_13).ri (unhide Oy_13).max (unhide Oz_13).max).mono ?_
    rintro e w14 ⟨rfl, hb⟩
    have HB14 := hide (below_next (unhide HB13) hb)
    have Ox_14 := hide ((unhide Ox_13).below hb (Nat.le_refl _))
    clear Ox_13
    have Oy_14 := hide ((unhide Oy_13).below hb (Nat.le_refl _))
    clear Oy_13
    have Oz_14 := hide ((unhide Oz_13).below hb (Nat.le_refl _))
    clear Oz_13
    clear hb 
    clear Oz_14
    go_upto_if 156 with (fail)
    go_cut [] (fun wx => Hid (Below w.heap.size w wx))
    case first =>
      rcases b2 with _ | _
      · skip
        go_wp2_with fail
        go_meet
        exact unhide HB14
      · skip
        obtain rfl : zs = readI (upI lx).1 := by rw [← hzs, if_pos hb2]
        have HPU := hide (pack_unpack hb2)
        have HZN := hide (smpB_len (readI_smp (upI lx).1))
        have hyn : ny ≤ 100 := by have := (unhide Oy_14).len; have := unhide HZN; omega
        have hsm := readI_smp (upI lx).1
        have HLX := hide (unhide HLNx)
        clear hzs hb2 m1
        go_wp2_with fail
        have HT15 := hide (implPackSamples_any Ay ny cy (readI (upI lx).1) w14 (unhide Oy_14).ri (by omega))
        rw [hsm, if_pos rfl, (unhide HPU).2.1] at HT15
        refine (unhide HT15).mono ?_
        rintro e w15 ⟨Ap, np, cp, rfl, hO, hb⟩
        have HB15 := hide (below_next (unhide HB14) hb)
        have Ox_15 := hide ((unhide Ox_14).below hb (Nat.le_refl _))
        clear Ox_14
        have Oy_15 := hide ((unhide Oy_14).below hb (Nat.le_refl _))
        clear Oy_14
        have Op_15 := hide hO
        clear hb hO
        clear HT15
        go_wp2_with fail
        have HT16 := hide (implTornAt_any Ax nx cx lx w15 (unhide Ox_15).ri (unhide Ox_15).cap (by omega))
        rw [(unhide HPU).1, if_pos rfl, (unhide HPU).2.2, unhide HLX] at HT16
        refine (unhide HT16).mono ?_
        rintro e w16 ⟨rfl, hb⟩
        have HB16 := hide (below_next (unhide HB15) hb)
        have Ox_16 := hide ((unhide Ox_15).below hb (Nat.le_refl _))
        clear Ox_15
        have Oy_16 := hide ((unhide Oy_15).below hb (Nat.le_refl _))
        clear Oy_15
        have Op_16 := hide ((unhide Op_15).below hb (Nat.le_refl _))
        clear Op_15
        clear hb 
        clear HT16
        go_wp2_with fail
        have m3 : (lx == lx) = true := by simp
        have m4 : ((nx : Int) != (nx : Int)) = false := by simp
        refine (vInts_any Ap Ax np nx cp cx _ _ lx lx _ (unhide Op_16).ri (unhide Ox_16).ri (unhide Op_16).max (unhide Ox_16).max).mono ?_
        rintro e w17 ⟨rfl, hb⟩
        have HB17 := hide (below_next (unhide HB16) hb)
        have Ox_17 := hide ((unhide Ox_16).below hb (Nat.le_refl _))
        clear Ox_16
        have Oy_17 := hide ((unhide Oy_16).below hb (Nat.le_refl _))
        clear Oy_16
        have Op_17 := hide ((unhide Op_16).below hb (Nat.le_refl _))
        clear Op_16
        clear hb 
        go_wp2_with fail
        go_meet
        exact unhide HB17
    case rest =>
      generalize wc = w24 at *
      have HB24 := hide hcut
      clear hcut
      go_wp2_with fail
      refine (drawReadableSamples_any A n c xs _ (unhide HR _ (unhide HB24)) hn).mono ?_
      rintro e w25 ⟨Au, nu, cu, lu, rfl, hO, hnu, hyu, hb⟩
      have HB25 := hide (below_next (unhide HB24) hb)
      have Ou_25 := hide hO
      clear hb hO
      have HLNu := hide ((unhide Ou_25)).len
      go_wp2_with fail
      obtain ⟨ps, b3, hps, hb3⟩ : ∃ ds b, (if bytB lu = true then readI (upI lu).1 else []) = ds ∧ bytB lu = b := ⟨_, _, rfl, rfl⟩
      obtain ⟨ta, hta⟩ : ∃ v, (if bytB lu = true then ((upI lu).2 : Int) else 0) = v := ⟨_, rfl⟩
      have HLE : Hid (b3 = true → ta ≤ (nu : Int)) := fun h => by
        rw [← hb3] at h
        have h1 := up_le lu h
        have h2 := unhide HLNu
        rw [← hta, if_pos h]
        omega
      have HT26 := hide (implReadableSamples_any Au nu cu lu w25 (unhide Ou_25).ri (unhide Ou_25).cap (by omega))
      rw [hps, hb3] at HT26
      refine (unhide HT26).mono ?_
      rintro e w26 ⟨Aa, na, ca, rfl, hO, hb⟩
      have HB26 := hide (below_next (unhide HB25) hb)
      have Ou_26 := hide ((unhide Ou_25).below hb (Nat.le_refl _))
      clear Ou_25
      have Oa_26 := hide hO
      clear hb hO
      clear HT26
      go_wp2_with fail
      have o1 := bool_same b3
      have HT27 := hide (specReadableSamples_any Au nu cu lu w26 (unhide Ou_26).ri (by omega))
      rw [hps, hb3] at HT27
      refine (unhide HT27).mono ?_
      rintro e w27 ⟨Ab, nb, cb, rfl, hO, hb⟩
      have HB27 := hide (below_next (unhide HB26) hb)
      have Ou_27 := hide ((unhide Ou_26).below hb (Nat.le_refl _))
      clear Ou_26
      have Oa_27 := hide ((unhide Oa_26).below hb (Nat.le_refl _))
      clear Oa_26
      have Ob_27 := hide hO
      clear hb hO
      clear HT27
      go_wp2_with fail
      have o2 : (ps == ps) = true := by simp
      refine (vInts_any Aa Ab na nb ca cb _ _ ps ps _ (unhide Oa_27).ri (unhide Ob_27).ri (unhide Oa_27).max (unhide Ob_27).max).mono ?_
      rintro e w28 ⟨rfl, hb⟩
      have HB28 := hide (below_next (unhide HB27) hb)
      have Ou_28 := hide ((unhide Ou_27).below hb (Nat.le_refl _))
      clear Ou_27
      have Oa_28 := hide ((unhide Oa_27).below hb (Nat.le_refl _))
      clear Oa_27
      have Ob_28 := hide ((unhide Ob_27).below hb (Nat.le_refl _))
      clear Ob_27
      clear hb 
      clear Oa_28
      clear Ob_28
      go_wp2_with fail
      have HT29 := hide (implTornAt_any Au nu cu lu w28 (unhide Ou_28).ri (unhide Ou_28).cap (by omega))
      rw [hta, hb3] at HT29
      refine (unhide HT29).mono ?_
      rintro e w29 ⟨rfl, hb⟩
      have HB29 := hide (below_next (unhide HB28) hb)
      have Ou_29 := hide ((unhide Ou_28).below hb (Nat.le_refl _))
      clear Ou_28
      clear hb 
      clear HT29
      go_wp2_with fail
      have HT30 := hide (specTornAt_any Au nu cu lu w29 (unhide Ou_29).ri (by omega))
      rw [hta, hb3] at HT30
      refine (unhide HT30).mono ?_
      rintro e w30 ⟨rfl, hb⟩
      have HB30 := hide (below_next (unhide HB29) hb)
      have Ou_30 := hide ((unhide Ou_29).below hb (Nat.le_refl _))
      clear Ou_29
      clear hb 
      clear HT30
      have o3 : (ta == ta) = true := by simp
      have o4 := bool_same' b3
      clear hta hb3 hps o1 o2
      rcases b3 with _ | _
      · go_wp2_with fail
        go_ret
        exact ⟨rfl, unhide HB30⟩
      · have o5 := unhide HLE rfl
        go_wp2_with fail
        go_ret
        exact ⟨rfl, unhide HB30⟩
end Go.Proofs.Ytnigieebmjjjjaa
