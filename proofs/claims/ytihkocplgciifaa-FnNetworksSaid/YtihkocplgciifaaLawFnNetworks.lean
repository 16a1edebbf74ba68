/- The walk of the law FnNetworks: it says true, at every input; what was there stays as it was. (By gen_FnNetworks.py.) -/
import Derived.Test.YtihkocplgciifaaProg
import Derived.Test.YtihkocplgciifaaDrawStN
import Derived.Test.YtihkocplgciifaaNetLaw
import Derived.Test.YtihkocplgciifaaSameS
import Derived.Test.YtihkocplgciifaaRowLaw
import Derived.Test.YtihkocplgciifaaPairS
import Derived.Deep.DeepCutAuto
import Derived.BigRegion
namespace Go.Proofs.Ytihkocplgciifaa
open Go.RowKit
set_option linter.unusedVariables false

theorem bool_same (b : Bool) : (b != b) = false := by simp
theorem beq_same (b : Bool) : (b == b) = true := by simp
theorem int_same (b : Int) : (b != b) = false := by simp
set_option maxHeartbeats 16000000 in
set_option maxRecDepth 100000 in
theorem law_FnNetworks (A : Option Addr) (n c : Nat) (xs : List Int) (w : World) (hr : RB w w.heap.size A n xs) :
    Calls Try.prog 14 #[.slice A n c] w fun e w' => e = .returned (.bool true) ∧ Below w.heap.size w w' := by
  have HR := hide (fun (W : World) (hb : Below w.heap.size w W) => RB.later hr hb)
  have HB0 := hide (Below.refl w.heap.size w)
  clear hr
  go_enter Try.func14, Try.ntmps14
  go_wp2_with fail
  refine (rBig_any A n c w).mono ?_
  rintro e w1 ⟨rfl, rfl⟩
  by_cases hbig : 65536 < n
  · have hbt : decide (65536 < n) = true := by simpa using hbig
    go_wp2_with fail
    go_ret
    exact ⟨rfl, Below.refl _ _⟩
  have hbt : decide (65536 < n) = false := by simpa using hbig
  have hn : n ≤ 65536 := by omega
  clear hbig
  go_wp2_with fail
  refine (drawRecalibrate_any A n c xs _ (unhide HR _ (unhide HB0)) hn).mono ?_
  rintro e w1 ⟨Al, nl, cl, tl, iw, gw, uw, rfl, hO, hnl, hNl, hb⟩
  have HB1 := hide (below_next (unhide HB0) hb)
  have Ol_1 := hide hO
  clear hb hO
  have HNl : Hid (∀ x ∈ tl, x.nm.size ≤ 9223372036854775807) := fun s hs => Nat.le_trans (hNl s hs) (by decide)
  clear hNl
  go_wp2_with fail
  obtain ⟨ys, b, hrc⟩ : ∃ ds b, recR tl iw gw uw = (ds, b) := ⟨_, _, rfl⟩
  have hyl : ys.length ≤ 2097152 := by have h9 := rec_short tl iw gw uw; rw [hrc] at h9; exact h9
  have HT2 := hide (implRec_any Al nl cl tl iw gw uw w1 (unhide Ol_1).rs (by omega) (unhide HNl))
  rw [hrc] at HT2
  refine (unhide HT2).mono ?_
  rintro e w2 ⟨Ao, no, co, rfl, hO, hb⟩
  have HB2 := hide (below_next (unhide HB1) hb)
  have Ol_2 := hide ((unhide Ol_1).below hb (Nat.le_refl _))
  clear Ol_1
  have Oo_2 := hide hO
  clear hb hO
  clear HT2
  go_wp2_with fail
  have HT3 := hide (specRec_any Al nl cl tl iw gw uw w2 (unhide Ol_2).rs (by omega) (unhide HNl))
  rw [hrc] at HT3
  refine (unhide HT3).mono ?_
  rintro e w3 ⟨Ap, np, cp, rfl, hO, hb⟩
  have HB3 := hide (below_next (unhide HB2) hb)
  have Ol_3 := hide ((unhide Ol_2).below hb (Nat.le_refl _))
  clear Ol_2
  have Oo_3 := hide ((unhide Oo_2).below hb (Nat.le_refl _))
  clear Oo_2
  have Op_3 := hide hO
  clear hb hO
  clear HT3
  have e1 := bool_same b
  have hno : no ≤ 2097152 := by have h9 : ys.length = no := (unhide Oo_3).len; omega
  go_wp2_with fail
  refine (rStations_same Ao Ap no np co cp _ _ ys _ (unhide Oo_3).rs (unhide Op_3).rs (by omega)).mono ?_
  rintro e w4 ⟨rfl, hb⟩
  have HB4 := hide (below_next (unhide HB3) hb)
  have Ol_4 := hide ((unhide Ol_3).below hb (Nat.le_refl _))
  clear Ol_3
  have Oo_4 := hide ((unhide Oo_3).below hb (Nat.le_refl _))
  clear Oo_3
  have Op_4 := hide ((unhide Op_3).below hb (Nat.le_refl _))
  clear Op_3
  clear hb 
  clear Op_4
  go_upto_if 69 with (fail)
  go_cut [] (fun wx => Hid (Below w.heap.size w wx))
  case first =>
    rcases b with _ | _
    · skip
      go_wp2_with fail
      go_meet
      exact unhide HB4
    · skip
      obtain ⟨⟨ds, hun, hds⟩, _, hny⟩ := rec_told hrc (unhide HNl)
      have hdl : ds.length ≤ 2097152 := by have h9 := unc_len ys uw; rw [hun] at h9; exact h9
      have HDS := hide hds
      clear hds hrc
      go_wp2_with fail
      have HT5 := hide (implUncalibrated_any Ao no co ys uw w4 (unhide Oo_4).rs (by omega) hny)
      rw [hun] at HT5
      refine (unhide HT5).mono ?_
      rintro e w5 ⟨Ad, nd, cd, rfl, hO, hb⟩
      have HB5 := hide (below_next (unhide HB4) hb)
      have Ol_5 := hide ((unhide Ol_4).below hb (Nat.le_refl _))
      clear Ol_4
      have Oo_5 := hide ((unhide Oo_4).below hb (Nat.le_refl _))
      clear Oo_4
      have Od_5 := hide hO
      clear hb hO
      clear HT5
      clear hun
      go_wp2_with fail
      refine (rHas_no Ad nd cd _ ds iw _ (unhide Od_5).ri (unhide Od_5).max (unhide HDS)).mono ?_
      rintro e w6 ⟨rfl, hb⟩
      have HB6 := hide (below_next (unhide HB5) hb)
      have Ol_6 := hide ((unhide Ol_5).below hb (Nat.le_refl _))
      clear Ol_5
      have Oo_6 := hide ((unhide Oo_5).below hb (Nat.le_refl _))
      clear Oo_5
      have Od_6 := hide ((unhide Od_5).below hb (Nat.le_refl _))
      clear Od_5
      clear hb 
      go_wp2_with fail
      go_meet
      exact unhide HB6
  case rest =>
    generalize wc = w13 at *
    have HB13 := hide hcut
    clear hcut
    go_wp2_with fail
    refine (drawPairDistances_any A n c xs _ (unhide HR _ (unhide HB13)) hn).mono ?_
    rintro e w14 ⟨Aq, nq, cq, tq, rfl, hO, hnq, hNq, hb⟩
    have HB14 := hide (below_next (unhide HB13) hb)
    have Oq_14 := hide hO
    clear hb hO
    have HNq : Hid (∀ x ∈ tq, x.nm.size ≤ 9223372036854775807) := fun s hs => Nat.le_trans (hNq s hs) (by decide)
    clear hNq
    go_wp2_with fail
    obtain ⟨vs, b2, hpr⟩ : ∃ v b, pairR tq = (v, b) := ⟨_, _, rfl⟩
    have HPO : Hid (∀ (i : Nat) (a b : Int × Int × Int), vs[i]? = some a → vs[i + 1]? = some b → k3 a ≤ k3 b) := fun i a b ha hb => pair_order tq i a b (by rw [hpr]; exact ha) (by rw [hpr]; exact hb)
    have hvl : vs.length ≤ 2097152 := by have h9 := pair_len tq; rw [hpr] at h9; exact h9
    have HT15 := hide (implPair_any Aq nq cq tq w14 (unhide Oq_14).rs (by omega) (unhide HNq) (unhide Oq_14).cap (unhide Oq_14).cmx)
    rw [hpr] at HT15
    refine (unhide HT15).mono ?_
    rintro e w15 ⟨Ak, nk, ck, rk, rfl, hO, htk, hb⟩
    have HB15 := hide (below_next (unhide HB14) hb)
    have Oq_15 := hide ((unhide Oq_14).below hb (Nat.le_refl _))
    clear Oq_14
    have Ok_15 := hide hO
    clear hb hO
    have HVk := hide htk
    clear HT15 htk
    go_wp2_with fail
    have HT16 := hide (specPair_any Aq nq cq tq w15 (unhide Oq_15).rs (by omega) (unhide HNq))
    rw [hpr] at HT16
    refine (unhide HT16).mono ?_
    rintro e w16 ⟨Am, nm, cm, rm, rfl, hO, htm, hb⟩
    have HB16 := hide (below_next (unhide HB15) hb)
    have Oq_16 := hide ((unhide Oq_15).below hb (Nat.le_refl _))
    clear Oq_15
    have Ok_16 := hide ((unhide Ok_15).below hb (Nat.le_refl _))
    clear Ok_15
    have Om_16 := hide hO
    clear hb hO
    have HVm := hide htm
    clear HT16 htm
    have e2 := bool_same b2
    have HKL : Hid (vs.length = nk) := by unfold Hid; rw [← unhide HVk, List.length_map]; exact (unhide Ok_16).len
    have hnk : nk ≤ 2097152 := by have := unhide HKL; omega
    go_wp2_with fail
    refine (rTable_same Ak Am nk nm ck cm rk rm _ (unhide Ok_16).rk (unhide Om_16).rk ((unhide HVk).trans (unhide HVm).symm) (unhide Ok_16).max).mono ?_
    rintro e w17 ⟨rfl, hb⟩
    have HB17 := hide (below_next (unhide HB16) hb)
    have Oq_17 := hide ((unhide Oq_16).below hb (Nat.le_refl _))
    clear Oq_16
    have Ok_17 := hide ((unhide Ok_16).below hb (Nat.le_refl _))
    clear Ok_16
    have Om_17 := hide ((unhide Om_16).below hb (Nat.le_refl _))
    clear Om_16
    clear hb 
    clear Om_17
    obtain ⟨lok, hlok, HOK⟩ : ∃ lo : Nat, w.heap.size ≤ lo ∧ Hid (OwnK w17 lo Ak nk ck rk) := ⟨_, (unhide HB14).size, Ok_17⟩
    have hcase : b2 = false ∨ (b2 = true ∧ IntKind.i64.wrap (2 * (nk : Int)) = 2 * (nk : Int) ∧ IntKind.i64.wrap ((nq : Int) - 1) = (nq : Int) - 1 ∧ IntKind.i64.wrap ((nq : Int) * ((nq : Int) - 1)) = 2 * (nk : Int)) := by
      rcases b2 with _ | _
      · exact .inl rfl
      · obtain ⟨h1, h2⟩ := pair_count hpr
        have h3 : tq.length = nq := (unhide Oq_17).len
        have h4 := unhide HKL
        rw [h3, h4] at h1
        refine .inr ⟨rfl, IntWalk.i64_in _ (by omega), IntWalk.i64_in _ (by omega), ?_⟩
        rw [← h1]
        exact IntWalk.i64_in _ (by omega)
    have e3 := int_same (2 * (nk : Int))
    clear Oq_17
    clear hpr
    rcases hcase with rfl | ⟨rfl, q1, q2, q3⟩
    all_goals
      go_wp2_with fail
      try clear q1 q2 q3
      go_loopw [18] (fun i wr => ∃ k : Nat, 1 ≤ k ∧ k ≤ nk + 1 ∧ i = .int .i64 (k : Int) ∧ Hid (Below w17.heap.size w17 wr)) (fun i _ => nk + 1 - (intOf i).toNat)
      case atStart => exact ⟨1, Nat.le_refl _, by omega, rfl, Below.refl _ _⟩
      case round =>
        obtain ⟨k, hk1, hk2, rfl, hB⟩ := hrel
        by_cases hlt : k < nk
        · obtain ⟨j, rfl⟩ : ∃ j, k = j + 1 := ⟨k - 1, by omega⟩
          have hOr := (unhide HOK).below (unhide hB) (Nat.le_refl _)
          obtain ⟨gk, rfl, _, _, _⟩ := hOr.form (by omega)
          obtain ⟨x, hx, c0, _⟩ := hOr.el (j := j) (by omega)
          obtain ⟨y, hy, d0, _⟩ := hOr.el (j := j + 1) (by omega)
          have c2 := (show World.cell? _ ⟨x.b, 2, none⟩ = some (.int .i64 x.d) from (hOr.mem x (List.mem_of_getElem? (unhide hx))).2.cell 2)
          have d2 := (show World.cell? _ ⟨y.b, 2, none⟩ = some (.int .i64 y.d) from (hOr.mem y (List.mem_of_getElem? (unhide hy))).2.cell 2)
          have hle : x.d ≤ y.d := unhide HPO j (tri3 x) (tri3 y) (by rw [← unhide HVk, List.getElem?_map, unhide hx]; rfl) (by rw [← unhide HVk, List.getElem?_map, unhide hy]; rfl)
          have l1 : ((j + 1 : Nat) : Int) < (nk : Int) := by omega
          have l2 : (0 : Int) ≤ ((j + 1 : Nat) : Int) := by omega
          have l3 : (j : Int) < (nk : Int) := by omega
          have l4 : (0 : Int) ≤ (j : Int) := by omega
          have l5 : (j : Int) + 1 < (nk : Int) := by omega
          have l6 : (0 : Int) ≤ (j : Int) + 1 := by omega
          have s2 : IntKind.i64.wrap (((j + 1 : Nat) : Int) - 1) = (j : Int) := by rw [show ((j + 1 : Nat) : Int) - 1 = (j : Int) by omega]; exact IntWalk.i64_in _ (by omega)
          have s3 : IntKind.i64.wrap ((j : Int) + 1 - 1) = (j : Int) := by rw [show (j : Int) + 1 - 1 = (j : Int) by omega]; exact IntWalk.i64_in _ (by omega)
          have t1 : decide (y.d < x.d) = false := decide_eq_false (by omega)
          have t2 : ¬ y.d < x.d := by omega
          clear hx hy hOr hle
          go_wp2_with fail
          go_quiet (fail)
          go_wp2_with fail
          go_roundw
          case rel => exact ⟨j + 2, by omega, by omega, by go_num, below_next (unhide hB) (below_drewN (Below.refl _ _) _)⟩
          case measure => simp [intOf] <;> omega
        · have l1 : ¬ (k : Int) < (nk : Int) := by omega
          have HB40 := hide (below_next (unhide HB17) (unhide hB))
          clear hlt hB HOK
          obtain ⟨w40, hw40⟩ : ∃ v : World, v = wr := ⟨_, rfl⟩
          subst hw40
          go_wp2_with fail
          refine (drawLargestGap_any A n c xs _ (unhide HR _ (unhide HB40)) hn).mono ?_
          rintro e w41 ⟨Au, nu, cu, tu, gx, gy, rfl, hO, hnu, hNu, hb⟩
          have HB41 := hide (below_next (unhide HB40) hb)
          have Ou_41 := hide hO
          clear hb hO
          have HNu : Hid (∀ x ∈ tu, x.nm.size ≤ 9223372036854775807) := fun s hs => Nat.le_trans (hNu s hs) (by decide)
          clear hNu
          go_wp2_with fail
          obtain ⟨gq, b3, hgp⟩ : ∃ q b, gapR tu gx gy = (q, b) := ⟨_, _, rfl⟩
          have HT42 := hide (implGap_any Au nu cu tu gx gy w41 (unhide Ou_41).rs (by omega) (unhide HNu))
          rw [hgp] at HT42
          refine (unhide HT42).mono ?_
          rintro e w42 ⟨rfl, hb⟩
          have HB42 := hide (below_next (unhide HB41) hb)
          have Ou_42 := hide ((unhide Ou_41).below hb (Nat.le_refl _))
          clear Ou_41
          clear hb 
          clear HT42
          go_wp2_with fail
          have HT43 := hide (specGap_any Au nu cu tu gx gy w42 (unhide Ou_42).rs (by omega) (unhide HNu))
          rw [hgp] at HT43
          refine (unhide HT43).mono ?_
          rintro e w43 ⟨rfl, hb⟩
          have HB43 := hide (below_next (unhide HB42) hb)
          have Ou_43 := hide ((unhide Ou_42).below hb (Nat.le_refl _))
          clear Ou_42
          clear hb 
          clear HT43
          have e4 := bool_same b3
          have e5 := int_same gq
          rcases b3 with _ | _
          · skip
            clear Ou_43
            go_wp2_with fail
            go_loopw [26] (fun i wr => i = .int .i64 0 ∧ wr = w43) (fun i _ => 0)
            case atStart => exact ⟨rfl, rfl⟩
            case round =>
              obtain ⟨rfl, hw41⟩ := hrel
              subst hw41
              rcases (show (0 : Int) < (nu : Int) ∨ ¬ (0 : Int) < (nu : Int) by omega) with l1 | l1
              all_goals
                go_wp2_with fail
                refine (drawUncalibrated_any A n c xs _ (unhide HR _ (unhide HB43)) hn).mono ?_
                rintro e w44 ⟨Av, nv, cv, tv, tk, rfl, hO, hnv, hNv, hb⟩
                have HB44 := hide (below_next (unhide HB43) hb)
                have Ov_44 := hide hO
                clear hb hO
                have HNv : Hid (∀ x ∈ tv, x.nm.size ≤ 9223372036854775807) := fun s hs => Nat.le_trans (hNv s hs) (by decide)
                clear hNv
                go_wp2_with fail
                obtain ⟨dv, b4, huv⟩ : ∃ ds b, uncR tv tk = (ds, b) := ⟨_, _, rfl⟩
                have HT45 := hide (implUncalibrated_any Av nv cv tv tk w44 (unhide Ov_44).rs (by omega) (unhide HNv))
                rw [huv] at HT45
                refine (unhide HT45).mono ?_
                rintro e w45 ⟨Ag, ng, cg, rfl, hO, hb⟩
                have HB45 := hide (below_next (unhide HB44) hb)
                have Ov_45 := hide ((unhide Ov_44).below hb (Nat.le_refl _))
                clear Ov_44
                have Og_45 := hide hO
                clear hb hO
                clear HT45
                go_wp2_with fail
                have HT46 := hide (specUncalibrated_any Av nv cv tv tk w45 (unhide Ov_45).rs (by omega) (unhide HNv))
                rw [huv] at HT46
                refine (unhide HT46).mono ?_
                rintro e w46 ⟨Ah, nh, ch, rfl, hO, hb⟩
                have HB46 := hide (below_next (unhide HB45) hb)
                have Ov_46 := hide ((unhide Ov_45).below hb (Nat.le_refl _))
                clear Ov_45
                have Og_46 := hide ((unhide Og_45).below hb (Nat.le_refl _))
                clear Og_45
                have Oh_46 := hide hO
                clear hb hO
                clear HT46
                go_wp2_with fail
                clear Ov_46
                refine (drawIsStation_any A n c xs _ (unhide HR _ (unhide HB46)) hn).mono ?_
                rintro e w47 ⟨s, rfl, hs3, hb⟩
                have HB47 := hide (below_next (unhide HB46) hb)
                have Og_47 := hide ((unhide Og_46).below hb (Nat.le_refl _))
                clear Og_46
                have Oh_47 := hide ((unhide Oh_46).below hb (Nat.le_refl _))
                clear Oh_46
                clear hb 
                have HKs := hide (Whl.here w47 26 #[.int .i64 s.id, .string s.nm, .int .i64 s.x, .int .i64 s.y, .int .i64 s.gn, .int .i64 s.lw, .int .i64 s.hg, .int .i64 s.ut])
                have HB48 := hide ((unhide HB47).alloc (unhide HB47).size (.cells #[.int .i64 s.id, .string s.nm, .int .i64 s.x, .int .i64 s.y, .int .i64 s.gn, .int .i64 s.lw, .int .i64 s.hg, .int .i64 s.ut] 26))
                have HGs := hide (((unhide Og_47)).alloc (.cells #[.int .i64 s.id, .string s.nm, .int .i64 s.x, .int .i64 s.y, .int .i64 s.gn, .int .i64 s.lw, .int .i64 s.hg, .int .i64 s.ut] 26))
                have HHs := hide (((unhide Oh_47)).alloc (.cells #[.int .i64 s.id, .string s.nm, .int .i64 s.x, .int .i64 s.y, .int .i64 s.gn, .int .i64 s.lw, .int .i64 s.hg, .int .i64 s.ut] 26))
                have hs4 : s.nm.size ≤ 9223372036854775807 := by omega
                obtain ⟨b5, hb5⟩ : ∃ b, stB s.id s.nm s.x s.y s.gn s.lw s.hg s.ut = b := ⟨_, rfl⟩
                clear huv
                go_wp2_with fail
                generalize w47.heap.size = gs at *
                generalize w47.alloc (.cells #[.int .i64 s.id, .string s.nm, .int .i64 s.x, .int .i64 s.y, .int .i64 s.gn, .int .i64 s.lw, .int .i64 s.hg, .int .i64 s.ut] 26) = w48 at *
                have e6 := beq_same b4
                have e7 := beq_same b5
                have c1 := hide (fun z : Abv w48 => Calls.abv (rInts_same Ag Ah ng nh cg ch z.w.heap.size z.w.heap.size dv z.w (((unhide HGs).ri).abv z) (((unhide HHs).ri).abv z) (unhide HGs).max))
                have c2 := hide (fun z : Abv w48 => Calls.abv (implIsStation_any s.id s.nm s.x s.y s.gn s.lw s.hg s.ut z.w hs4))
                have c3 := hide (fun z : Abv w48 => Calls.abv (specIsStation_any s.id s.nm s.x s.y s.gn s.lw s.hg s.ut z.w hs4))
                rw [hb5] at c2 c3
                have hgz : gs < w48.heap.size := (unhide HKs).lt
                have p0 : ∀ z : Abv w48, z.w.cell? ⟨gs, 0, none⟩ = some (.int .i64 s.id) := Abv.cell hgz ((unhide HKs).cell 0)
                have p1 : ∀ z : Abv w48, z.w.cell? ⟨gs, 1, none⟩ = some (.string s.nm) := Abv.cell hgz ((unhide HKs).cell 1)
                have p2 : ∀ z : Abv w48, z.w.cell? ⟨gs, 2, none⟩ = some (.int .i64 s.x) := Abv.cell hgz ((unhide HKs).cell 2)
                have p3 : ∀ z : Abv w48, z.w.cell? ⟨gs, 3, none⟩ = some (.int .i64 s.y) := Abv.cell hgz ((unhide HKs).cell 3)
                have p4 : ∀ z : Abv w48, z.w.cell? ⟨gs, 4, none⟩ = some (.int .i64 s.gn) := Abv.cell hgz ((unhide HKs).cell 4)
                have p5 : ∀ z : Abv w48, z.w.cell? ⟨gs, 5, none⟩ = some (.int .i64 s.lw) := Abv.cell hgz ((unhide HKs).cell 5)
                have p6 : ∀ z : Abv w48, z.w.cell? ⟨gs, 6, none⟩ = some (.int .i64 s.hg) := Abv.cell hgz ((unhide HKs).cell 6)
                have p7 : ∀ z : Abv w48, z.w.cell? ⟨gs, 7, none⟩ = some (.int .i64 s.ut) := Abv.cell hgz ((unhide HKs).cell 7)
                clear hb5
                refine wp_region_abv w48 (by kernel_rfl) (by kernel_rfl) (Below.refl _ _) ?_
                repeat (go_big_quiet_step ((first | (go_at_call 50; with_reducible exact unhide c1 _) | (go_at_call 18; with_reducible exact unhide c2 _) | (go_at_call 16; with_reducible exact unhide c3 _))))
                refine wpQuiet_nil ?_
                intro _ hw'
                obtain ⟨sv, hw''⟩ := hw'
                subst hw''
                go_wp2_with fail
                go_ret
                exact ⟨rfl, below_next (unhide HB48) sv.h⟩
          · skip
            have HGN := hide (fun (s : St) (hs : s ∈ tu) => gap_none hgp s hs)
            clear hgp
            go_wp2_with fail
            go_loopw [26] (fun i wr => ∃ k : Nat, k ≤ nu ∧ i = .int .i64 (k : Int) ∧ Hid (Below w43.heap.size w43 wr)) (fun i _ => nu - (intOf i).toNat)
            case atStart => exact ⟨0, Nat.zero_le _, rfl, Below.refl _ _⟩
            case round =>
              obtain ⟨k, hk, rfl, hB⟩ := hrel
              by_cases hlt : k < nu
              · have hOr := (unhide Ou_43).below (unhide hB) (Nat.le_refl _)
                obtain ⟨ad, s, rfl, hbx, hx, c0, c1, c2, c3, c4, c5, c6, c7⟩ := hOr.rs.get hlt
                obtain ⟨hg0, hg2⟩ := unhide HGN s (List.mem_of_getElem? (unhide hx))
                have HB9 := hide ((unhide hB).alloc (unhide hB).size (.cells #[.int .i64 s.id, .string s.nm, .int .i64 s.x, .int .i64 s.y, .int .i64 s.gn, .int .i64 s.lw, .int .i64 s.hg, .int .i64 s.ut] 26))
                have l1 : (k : Int) < (nu : Int) := by omega
                have l2 : (0 : Int) ≤ (k : Int) := by omega
                clear hx hOr hbx
                have hcases : (gq = 0 ∧ ¬ gx < s.x) ∨ (gq = 0 ∧ gx < s.x ∧ ¬ gy ≤ s.y) ∨ (gq = 2 ∧ ¬ s.x < gx) ∨ (gq = 2 ∧ s.x < gx ∧ ¬ s.y ≤ gy) ∨ ((gq == 0) = false ∧ (gq == 2) = false) := by
                  simp only [beq_eq_false_iff_ne, ne_eq]
                  omega
                clear hg0 hg2 e5
                rcases hcases with ⟨rfl, q1⟩ | ⟨rfl, q1, q2⟩ | ⟨rfl, q1⟩ | ⟨rfl, q1, q2⟩ | ⟨q1, q2⟩
                all_goals
                  go_wp2_with fail
                  go_roundw
                  case rel => exact ⟨k + 1, by omega, by go_num, HB9⟩
                  case measure => simp [intOf] <;> omega
              · have l1 : ¬ (k : Int) < (nu : Int) := by omega
                have HB50 := hide (below_next (unhide HB43) (unhide hB))
                clear hlt hB
                obtain ⟨w50, hw50⟩ : ∃ v : World, v = wr := ⟨_, rfl⟩
                subst hw50
                go_wp2_with fail
                refine (drawUncalibrated_any A n c xs _ (unhide HR _ (unhide HB50)) hn).mono ?_
                rintro e w51 ⟨Av, nv, cv, tv, tk, rfl, hO, hnv, hNv, hb⟩
                have HB51 := hide (below_next (unhide HB50) hb)
                have Ov_51 := hide hO
                clear hb hO
                have HNv : Hid (∀ x ∈ tv, x.nm.size ≤ 9223372036854775807) := fun s hs => Nat.le_trans (hNv s hs) (by decide)
                clear hNv
                go_wp2_with fail
                obtain ⟨dv, b4, huv⟩ : ∃ ds b, uncR tv tk = (ds, b) := ⟨_, _, rfl⟩
                have HT52 := hide (implUncalibrated_any Av nv cv tv tk w51 (unhide Ov_51).rs (by omega) (unhide HNv))
                rw [huv] at HT52
                refine (unhide HT52).mono ?_
                rintro e w52 ⟨Ag, ng, cg, rfl, hO, hb⟩
                have HB52 := hide (below_next (unhide HB51) hb)
                have Ov_52 := hide ((unhide Ov_51).below hb (Nat.le_refl _))
                clear Ov_51
                have Og_52 := hide hO
                clear hb hO
                clear HT52
                go_wp2_with fail
                have HT53 := hide (specUncalibrated_any Av nv cv tv tk w52 (unhide Ov_52).rs (by omega) (unhide HNv))
                rw [huv] at HT53
                refine (unhide HT53).mono ?_
                rintro e w53 ⟨Ah, nh, ch, rfl, hO, hb⟩
                have HB53 := hide (below_next (unhide HB52) hb)
                have Ov_53 := hide ((unhide Ov_52).below hb (Nat.le_refl _))
                clear Ov_52
                have Og_53 := hide ((unhide Og_52).below hb (Nat.le_refl _))
                clear Og_52
                have Oh_53 := hide hO
                clear hb hO
                clear HT53
                go_wp2_with fail
                clear Ov_53
                refine (drawIsStation_any A n c xs _ (unhide HR _ (unhide HB53)) hn).mono ?_
                rintro e w54 ⟨s, rfl, hs3, hb⟩
                have HB54 := hide (below_next (unhide HB53) hb)
                have Og_54 := hide ((unhide Og_53).below hb (Nat.le_refl _))
                clear Og_53
                have Oh_54 := hide ((unhide Oh_53).below hb (Nat.le_refl _))
                clear Oh_53
                clear hb 
                have HKs := hide (Whl.here w54 26 #[.int .i64 s.id, .string s.nm, .int .i64 s.x, .int .i64 s.y, .int .i64 s.gn, .int .i64 s.lw, .int .i64 s.hg, .int .i64 s.ut])
                have HB55 := hide ((unhide HB54).alloc (unhide HB54).size (.cells #[.int .i64 s.id, .string s.nm, .int .i64 s.x, .int .i64 s.y, .int .i64 s.gn, .int .i64 s.lw, .int .i64 s.hg, .int .i64 s.ut] 26))
                have HGs := hide (((unhide Og_54)).alloc (.cells #[.int .i64 s.id, .string s.nm, .int .i64 s.x, .int .i64 s.y, .int .i64 s.gn, .int .i64 s.lw, .int .i64 s.hg, .int .i64 s.ut] 26))
                have HHs := hide (((unhide Oh_54)).alloc (.cells #[.int .i64 s.id, .string s.nm, .int .i64 s.x, .int .i64 s.y, .int .i64 s.gn, .int .i64 s.lw, .int .i64 s.hg, .int .i64 s.ut] 26))
                have hs4 : s.nm.size ≤ 9223372036854775807 := by omega
                obtain ⟨b5, hb5⟩ : ∃ b, stB s.id s.nm s.x s.y s.gn s.lw s.hg s.ut = b := ⟨_, rfl⟩
                clear huv
                go_wp2_with fail
                generalize w54.heap.size = gs at *
                generalize w54.alloc (.cells #[.int .i64 s.id, .string s.nm, .int .i64 s.x, .int .i64 s.y, .int .i64 s.gn, .int .i64 s.lw, .int .i64 s.hg, .int .i64 s.ut] 26) = w55 at *
                have e6 := beq_same b4
                have e7 := beq_same b5
                have c1 := hide (fun z : Abv w55 => Calls.abv (rInts_same Ag Ah ng nh cg ch z.w.heap.size z.w.heap.size dv z.w (((unhide HGs).ri).abv z) (((unhide HHs).ri).abv z) (unhide HGs).max))
                have c2 := hide (fun z : Abv w55 => Calls.abv (implIsStation_any s.id s.nm s.x s.y s.gn s.lw s.hg s.ut z.w hs4))
                have c3 := hide (fun z : Abv w55 => Calls.abv (specIsStation_any s.id s.nm s.x s.y s.gn s.lw s.hg s.ut z.w hs4))
                rw [hb5] at c2 c3
                have hgz : gs < w55.heap.size := (unhide HKs).lt
                have p0 : ∀ z : Abv w55, z.w.cell? ⟨gs, 0, none⟩ = some (.int .i64 s.id) := Abv.cell hgz ((unhide HKs).cell 0)
                have p1 : ∀ z : Abv w55, z.w.cell? ⟨gs, 1, none⟩ = some (.string s.nm) := Abv.cell hgz ((unhide HKs).cell 1)
                have p2 : ∀ z : Abv w55, z.w.cell? ⟨gs, 2, none⟩ = some (.int .i64 s.x) := Abv.cell hgz ((unhide HKs).cell 2)
                have p3 : ∀ z : Abv w55, z.w.cell? ⟨gs, 3, none⟩ = some (.int .i64 s.y) := Abv.cell hgz ((unhide HKs).cell 3)
                have p4 : ∀ z : Abv w55, z.w.cell? ⟨gs, 4, none⟩ = some (.int .i64 s.gn) := Abv.cell hgz ((unhide HKs).cell 4)
                have p5 : ∀ z : Abv w55, z.w.cell? ⟨gs, 5, none⟩ = some (.int .i64 s.lw) := Abv.cell hgz ((unhide HKs).cell 5)
                have p6 : ∀ z : Abv w55, z.w.cell? ⟨gs, 6, none⟩ = some (.int .i64 s.hg) := Abv.cell hgz ((unhide HKs).cell 6)
                have p7 : ∀ z : Abv w55, z.w.cell? ⟨gs, 7, none⟩ = some (.int .i64 s.ut) := Abv.cell hgz ((unhide HKs).cell 7)
                clear hb5
                refine wp_region_abv w55 (by kernel_rfl) (by kernel_rfl) (Below.refl _ _) ?_
                repeat (go_big_quiet_step ((first | (go_at_call 50; with_reducible exact unhide c1 _) | (go_at_call 18; with_reducible exact unhide c2 _) | (go_at_call 16; with_reducible exact unhide c3 _))))
                refine wpQuiet_nil ?_
                intro _ hw'
                obtain ⟨sv, hw''⟩ := hw'
                subst hw''
                go_wp2_with fail
                go_ret
                exact ⟨rfl, below_next (unhide HB55) sv.h⟩
end Go.Proofs.Ytihkocplgciifaa
