/- The walk of the law FnStations: it says true, at every input; what was there stays as it was. (By gen_FnStations.py.) -/
import Derived.Test.YtihkocplgciifaaProg
import Derived.Test.YtihkocplgciifaaDrawStN
import Derived.Test.YtihkocplgciifaaStLawB
import Derived.Test.YtihkocplgciifaaSameI
import Derived.Deep.DeepCutAuto
namespace Go.Proofs.Ytihkocplgciifaa
open Go.RowKit
set_option linter.unusedVariables false

/-- a block held whole, carried like a row -/
def WhlO (w : World) (g : Nat) (t : TypeId) (cs : Array Value) : Prop := Whl w g t cs
theorem WhlO.below {w w' : World} {g : Nat} {t : TypeId} {cs : Array Value} (h : WhlO w g t cs) (hb : Below w.heap.size w w') (_ : w.heap.size ≤ w.heap.size) : WhlO w' g t cs := Whl.below h hb
theorem WhlO.cell {w : World} {g : Nat} {t : TypeId} {cs : Array Value} (h : WhlO w g t cs) (i : Nat) : w.cell? ⟨g, i, none⟩ = cs[i]? := Whl.cell h i
theorem bool_same (b : Bool) : (b != b) = false := by simp
theorem beq_same (b : Bool) : (b == b) = true := by simp
theorem int_same (b : Int) : (b != b) = false := by simp
set_option maxHeartbeats 8000000 in
set_option maxRecDepth 100000 in
theorem law_FnStations (A : Option Addr) (n c : Nat) (xs : List Int) (w : World) (hr : RB w w.heap.size A n xs) :
    Calls Try.prog 13 #[.slice A n c] w fun e w' => e = .returned (.bool true) ∧ Below w.heap.size w w' := by
  have HR := hide (fun (W : World) (hb : Below w.heap.size w W) => RB.later hr hb)
  have HB0 := hide (Below.refl w.heap.size w)
  clear hr
  go_enter Try.func13, Try.ntmps13
  go_wp2_with fail
  refine (rBig_any A n c w).mono ?_
  rintro e w1 ⟨rfl, rfl⟩
  by_cases hbig : 65536 < n
  · have hbt : decide (65536 < n) = true := by simpa using hbig
    go_wp2_with fail
    go_ret
    exact ⟨rfl, Below.refl _ _⟩
  have hbt : decide (65536 < n) = false := by simpa using hbig
  have hn : n ≤ 65536 := by omega
  clear hbig
  go_wp2_with fail
  refine (drawNearestStations_any A n c xs _ (unhide HR _ (unhide HB0)) hn).mono ?_
  rintro e w1 ⟨Al, nl, cl, tl, x, y, m, rfl, hO, hnl, hNl, hb⟩
  have HB1 := hide (below_next (unhide HB0) hb)
  have Ol_1 := hide hO
  clear hb hO
  have HNl : Hid (∀ x ∈ tl, x.nm.size ≤ 9223372036854775807) := fun s hs => Nat.le_trans (hNl s hs) (by decide)
  clear hNl
  go_wp2_with fail
  obtain ⟨ds, b, hdb⟩ : ∃ ds b, nearR tl x y m = (ds, b) := ⟨_, _, rfl⟩
  have HT2 := hide (implNear_any Al nl cl tl x y m w1 (unhide Ol_1).rs (by omega) (unhide HNl))
  rw [hdb] at HT2
  refine (unhide HT2).mono ?_
  rintro e w2 ⟨Ad, nd, cd, rfl, hO, hb⟩
  have HB2 := hide (below_next (unhide HB1) hb)
  have Ol_2 := hide ((unhide Ol_1).below hb (Nat.le_refl _))
  clear Ol_1
  have Od_2 := hide hO
  clear hb hO
  clear HT2
  go_wp2_with fail
  have HT3 := hide (specNear_any Al nl cl tl x y m w2 (unhide Ol_2).rs (by omega) (unhide HNl))
  rw [hdb] at HT3
  refine (unhide HT3).mono ?_
  rintro e w3 ⟨Ae, ne, ce, rfl, hO, hb⟩
  have HB3 := hide (below_next (unhide HB2) hb)
  have Ol_3 := hide ((unhide Ol_2).below hb (Nat.le_refl _))
  clear Ol_2
  have Od_3 := hide ((unhide Od_2).below hb (Nat.le_refl _))
  clear Od_2
  have Oe_3 := hide hO
  clear hb hO
  clear HT3
  have e1 := bool_same b
  go_wp2_with fail
  refine (rInts_same Ad Ae nd ne cd ce _ _ (ds) _ (unhide Od_3).ri (unhide Oe_3).ri (unhide Od_3).max).mono ?_
  rintro e w4 ⟨rfl, hb⟩
  have HB4 := hide (below_next (unhide HB3) hb)
  have Ol_4 := hide ((unhide Ol_3).below hb (Nat.le_refl _))
  clear Ol_3
  have Od_4 := hide ((unhide Od_3).below hb (Nat.le_refl _))
  clear Od_3
  have Oe_4 := hide ((unhide Oe_3).below hb (Nat.le_refl _))
  clear Oe_3
  clear hb 
  go_upto_region 8 with (fail)
  go_cut [83] (fun v wx => v = .bool false ∧ Hid (Below w.heap.size w wx))
  case first =>
    rcases b with _ | _
    · skip
      go_wp2_with fail
      go_meet
      exact ⟨rfl, unhide HB4⟩
    · skip
      have hcn : nd = nl ∨ (nd : Int) = m := by have h1 := near_count hdb; have h2 := (unhide Od_4).len; have h3 := (unhide Ol_4).len; omega
      rcases hcn with h1 | h1
      · have t1 : ((nd : Int) != (nl : Int)) = false := by simp; omega
        go_wp2_with fail
        go_meet
        exact ⟨rfl, unhide HB4⟩
      · by_cases h2 : nd = nl
        · have t1 : ((nd : Int) != (nl : Int)) = false := by simp; omega
          go_wp2_with fail
          go_meet
          exact ⟨rfl, unhide HB4⟩
        · have t1 : ((nd : Int) != (nl : Int)) = true := by simp; omega
          have t2 : ((nd : Int) != m) = false := by simp; omega
          clear h2 h1
          go_wp2_with fail
          go_meet
          exact ⟨rfl, unhide HB4⟩
  case rest =>
    obtain ⟨rfl, hcut⟩ := hcut
    generalize wc = w5 at *
    have HB5 := hide hcut
    clear hcut
    go_wp2_with fail
    refine (drawCommonBand_any A n c xs _ (unhide HR _ (unhide HB5)) hn).mono ?_
    rintro e w6 ⟨Ap, np, cp, tp, rfl, hO, hnp, hNp, hb⟩
    have HB6 := hide (below_next (unhide HB5) hb)
    have Op_6 := hide hO
    clear hb hO
    have HNp : Hid (∀ x ∈ tp, x.nm.size ≤ 9223372036854775807) := fun s hs => Nat.le_trans (hNp s hs) (by decide)
    clear hNp
    go_wp2_with fail
    obtain ⟨lo, hi, b2, hband⟩ : ∃ lo hi b, bandR tp = (lo, hi, b) := ⟨_, _, _, rfl⟩
    have HT7 := hide (implBand_any Ap np cp tp w6 (unhide Op_6).rs (by omega) (unhide HNp))
    rw [hband] at HT7
    refine (unhide HT7).mono ?_
    rintro e w7 ⟨rfl, hb⟩
    have HB7 := hide (below_next (unhide HB6) hb)
    have Op_7 := hide ((unhide Op_6).below hb (Nat.le_refl _))
    clear Op_6
    clear hb 
    clear HT7
    go_wp2_with fail
    have HT8 := hide (specBand_any Ap np cp tp w7 (unhide Op_7).rs (by omega) (unhide HNp))
    rw [hband] at HT8
    refine (unhide HT8).mono ?_
    rintro e w8 ⟨rfl, hb⟩
    have HB8 := hide (below_next (unhide HB7) hb)
    have Op_8 := hide ((unhide Op_7).below hb (Nat.le_refl _))
    clear Op_7
    clear hb 
    clear HT8
    have e2 := bool_same b2
    have e3 := int_same lo
    have e4 := int_same hi
    go_upto_if 111 with (fail)
    go_cut [] (fun wx => Hid (Below w.heap.size w wx))
    case first =>
      rcases b2 with _ | _
      · skip
        go_wp2_with fail
        go_meet
        exact unhide HB8
      · skip
        obtain ⟨hs1, hs2⟩ := band_seen hband
        have HIL : Hid ((idsI tp).length = np) := by unfold Hid idsI; rw [List.length_map]; exact (unhide Op_8).len
        go_wp2_with fail
        have HT9 := hide (implStationsSeeing_any Ap np cp tp lo w8 (unhide Op_8).rs (by omega) (unhide HNp))
        rw [hs1] at HT9
        refine (unhide HT9).mono ?_
        rintro e w9 ⟨Aa, na, ca, rfl, hO, hb⟩
        have HB9 := hide (below_next (unhide HB8) hb)
        have Op_9 := hide ((unhide Op_8).below hb (Nat.le_refl _))
        clear Op_8
        have Oa_9 := hide hO
        clear hb hO
        clear HT9
        go_wp2_with fail
        have HT10 := hide (implStationsSeeing_any Ap np cp tp hi w9 (unhide Op_9).rs (by omega) (unhide HNp))
        rw [hs2] at HT10
        refine (unhide HT10).mono ?_
        rintro e w10 ⟨Aq, nq, cq, rfl, hO, hb⟩
        have HB10 := hide (below_next (unhide HB9) hb)
        have Op_10 := hide ((unhide Op_9).below hb (Nat.le_refl _))
        clear Op_9
        have Oa_10 := hide ((unhide Oa_9).below hb (Nat.le_refl _))
        clear Oa_9
        have Oq_10 := hide hO
        clear hb hO
        clear HT10
        have t1 : ((na : Int) != (np : Int)) = false := by have h8 : (idsI tp).length = na := (unhide Oa_10).len; have h9 := unhide HIL; simp; omega
        have t2 : ((nq : Int) != (np : Int)) = false := by have h8 : (idsI tp).length = nq := (unhide Oq_10).len; have h9 := unhide HIL; simp; omega
        go_wp2_with fail
        go_meet
        exact unhide HB10
    case rest =>
      generalize wc = w17 at *
      have HB17 := hide hcut
      clear hcut
      go_wp2_with fail
      refine (drawSpeedOf_any A n c xs _ (unhide HR _ (unhide HB17)) hn).mono ?_
      rintro e w18 ⟨s, x3, rfl, hs3, hb⟩
      have HB18 := hide (below_next (unhide HB17) hb)
      clear hb 
      have HOsx := hide (show WhlO (w18.alloc (.cells #[.int .i64 s.id, .string s.nm, .int .i64 s.x, .int .i64 s.y, .int .i64 s.gn, .int .i64 s.lw, .int .i64 s.hg, .int .i64 s.ut] 26)) w18.heap.size 26 #[.int .i64 s.id, .string s.nm, .int .i64 s.x, .int .i64 s.y, .int .i64 s.gn, .int .i64 s.lw, .int .i64 s.hg, .int .i64 s.ut] from Whl.here w18 _ _)
      have HBsx := hide ((unhide HB18).alloc (unhide HB18).size (.cells #[.int .i64 s.id, .string s.nm, .int .i64 s.x, .int .i64 s.y, .int .i64 s.gn, .int .i64 s.lw, .int .i64 s.hg, .int .i64 s.ut] 26))
      have hs4 : s.nm.size ≤ 9223372036854775807 := by omega
      go_wp2_with fail
      generalize w18.heap.size = gs at *
      generalize w18.alloc (.cells #[.int .i64 s.id, .string s.nm, .int .i64 s.x, .int .i64 s.y, .int .i64 s.gn, .int .i64 s.lw, .int .i64 s.hg, .int .i64 s.ut] 26) = wsx at *
      have k0 : wsx.cell? ⟨gs, 0, none⟩ = some (.int .i64 s.id) := (unhide HOsx).cell 0
      have k1 : wsx.cell? ⟨gs, 1, none⟩ = some (.string s.nm) := (unhide HOsx).cell 1
      have k2 : wsx.cell? ⟨gs, 2, none⟩ = some (.int .i64 s.x) := (unhide HOsx).cell 2
      have k3 : wsx.cell? ⟨gs, 3, none⟩ = some (.int .i64 s.y) := (unhide HOsx).cell 3
      have k4 : wsx.cell? ⟨gs, 4, none⟩ = some (.int .i64 s.gn) := (unhide HOsx).cell 4
      have k5 : wsx.cell? ⟨gs, 5, none⟩ = some (.int .i64 s.lw) := (unhide HOsx).cell 5
      have k6 : wsx.cell? ⟨gs, 6, none⟩ = some (.int .i64 s.hg) := (unhide HOsx).cell 6
      have k7 : wsx.cell? ⟨gs, 7, none⟩ = some (.int .i64 s.ut) := (unhide HOsx).cell 7
      obtain ⟨num, den, b3, hspd⟩ : ∃ p q b, spdR s.id s.nm s.x s.y s.gn s.lw s.hg s.ut x3 = (p, q, b) := ⟨_, _, _, rfl⟩
      obtain ⟨w19, hwk⟩ : ∃ v : World, v = wsx := ⟨_, rfl⟩
      subst hwk
      go_wp2_with fail
      have HT20 := hide (implSpeedOf_any s.id s.nm s.x s.y s.gn s.lw s.hg s.ut x3 w19 hs4)
      rw [hspd] at HT20
      refine (unhide HT20).mono ?_
      rintro e w20 ⟨rfl, hb⟩
      have HB20 := hide (below_next (unhide HBsx) hb)
      have Os_20 := hide ((unhide HOsx).below hb (Nat.le_refl _))
      clear HOsx
      clear hb 
      clear HT20
      have k0 : w20.cell? ⟨gs, 0, none⟩ = some (.int .i64 s.id) := (unhide Os_20).cell 0
      have k1 : w20.cell? ⟨gs, 1, none⟩ = some (.string s.nm) := (unhide Os_20).cell 1
      have k2 : w20.cell? ⟨gs, 2, none⟩ = some (.int .i64 s.x) := (unhide Os_20).cell 2
      have k3 : w20.cell? ⟨gs, 3, none⟩ = some (.int .i64 s.y) := (unhide Os_20).cell 3
      have k4 : w20.cell? ⟨gs, 4, none⟩ = some (.int .i64 s.gn) := (unhide Os_20).cell 4
      have k5 : w20.cell? ⟨gs, 5, none⟩ = some (.int .i64 s.lw) := (unhide Os_20).cell 5
      have k6 : w20.cell? ⟨gs, 6, none⟩ = some (.int .i64 s.hg) := (unhide Os_20).cell 6
      have k7 : w20.cell? ⟨gs, 7, none⟩ = some (.int .i64 s.ut) := (unhide Os_20).cell 7
      go_wp2_with fail
      have HT21 := hide (specSpeedOf_any s.id s.nm s.x s.y s.gn s.lw s.hg s.ut x3 w20 hs4)
      rw [hspd] at HT21
      refine (unhide HT21).mono ?_
      rintro e w21 ⟨rfl, hb⟩
      have HB21 := hide (below_next (unhide HB20) hb)
      have Os_21 := hide ((unhide Os_20).below hb (Nat.le_refl _))
      clear Os_20
      clear hb 
      clear HT21
      have k4 : w21.cell? ⟨gs, 4, none⟩ = some (.int .i64 s.gn) := (unhide Os_21).cell 4
      have e5 := bool_same b3
      have e6 := int_same num
      have e7 := int_same den
      go_upto_region 25 with (fail)
      go_cut [190] (fun v wx => v = .bool false ∧ Hid (Below w.heap.size w wx))
      case first =>
        rcases b3 with _ | _
        · skip
          go_wp2_with fail
          go_meet
          exact ⟨rfl, unhide HB21⟩
        · skip
          obtain ⟨h1, ⟨h2, h3⟩, ⟨h4, h5⟩, ⟨h6, h7⟩, h8, h9⟩ := spd_yes hspd
          have q1 : -1000000000 ≤ num * s.gn ∧ num * s.gn ≤ 1000000000 := by
            rcases Int.lt_or_le num 0 with h | h
            · have a1 : -100000 * 10000 ≤ num * s.gn := by
                have b1 : -100000 * s.gn ≤ num * s.gn := Int.mul_le_mul_of_nonneg_right h6 (by omega)
                omega
              have a2 : num * s.gn ≤ 0 := Int.mul_nonpos_of_nonpos_of_nonneg (by omega) (by omega)
              omega
            · have a1 : 0 ≤ num * s.gn := Int.mul_nonneg h (by omega)
              have b1 : num * s.gn ≤ 100000 * s.gn := Int.mul_le_mul_of_nonneg_right h7 (by omega)
              omega
          have q2 : IntKind.i64.wrap (num * s.gn) = num * s.gn := IntWalk.i64_in _ (by omega)
          have q3 : IntKind.i64.wrap (x3 * den) = num * s.gn := by rw [← h1]; exact q2
          have q4 := int_same (num * s.gn)
          have q5 : decide (den < 1) = false := by simp; omega
          have q6 : ¬ den < 1 := by omega
          clear h1 h2 h3 h4 h5 h6 h7 h8 h9 q1
          go_wp2_with fail
          go_meet
          exact ⟨rfl, unhide HB21⟩
      case rest =>
        obtain ⟨rfl, hcut⟩ := hcut
        generalize wc = w28 at *
        have HB28 := hide hcut
        clear hcut
        go_wp2_with fail
        refine (drawStationsSeeing_any A n c xs _ (unhide HR _ (unhide HB28)) hn).mono ?_
        rintro e w29 ⟨Au, nu, cu, tu, x4, rfl, hO, hnu, hNu, hb⟩
        have HB29 := hide (below_next (unhide HB28) hb)
        have Ou_29 := hide hO
        clear hb hO
        have HNu : Hid (∀ x ∈ tu, x.nm.size ≤ 9223372036854775807) := fun s hs => Nat.le_trans (hNu s hs) (by decide)
        clear hNu
        go_wp2_with fail
        obtain ⟨ds4, b4, hd4⟩ : ∃ ds b, seeR tu x4 = (ds, b) := ⟨_, _, rfl⟩
        obtain ⟨b5, hb5⟩ : ∃ b, stsB tu = b := ⟨_, rfl⟩
        have HT30 := hide (implStationsSeeing_any Au nu cu tu x4 w29 (unhide Ou_29).rs (by omega) (unhide HNu))
        rw [hd4] at HT30
        refine (unhide HT30).mono ?_
        rintro e w30 ⟨Ag, ng, cg, rfl, hO, hb⟩
        have HB30 := hide (below_next (unhide HB29) hb)
        have Ou_30 := hide ((unhide Ou_29).below hb (Nat.le_refl _))
        clear Ou_29
        have Og_30 := hide hO
        clear hb hO
        clear HT30
        go_wp2_with fail
        have HT31 := hide (specStationsSeeing_any Au nu cu tu x4 w30 (unhide Ou_30).rs (by omega) (unhide HNu))
        rw [hd4] at HT31
        refine (unhide HT31).mono ?_
        rintro e w31 ⟨Ah, nh, ch, rfl, hO, hb⟩
        have HB31 := hide (below_next (unhide HB30) hb)
        have Ou_31 := hide ((unhide Ou_30).below hb (Nat.le_refl _))
        clear Ou_30
        have Og_31 := hide ((unhide Og_30).below hb (Nat.le_refl _))
        clear Og_30
        have Oh_31 := hide hO
        clear hb hO
        clear HT31
        have e8 := beq_same b4
        have e9 := beq_same b5
        go_wp2_with fail
        refine (rInts_same Ag Ah ng nh cg ch _ _ (ds4) _ (unhide Og_31).ri (unhide Oh_31).ri (unhide Og_31).max).mono ?_
        rintro e w32 ⟨rfl, hb⟩
        have HB32 := hide (below_next (unhide HB31) hb)
        have Ou_32 := hide ((unhide Ou_31).below hb (Nat.le_refl _))
        clear Ou_31
        have Og_32 := hide ((unhide Og_31).below hb (Nat.le_refl _))
        clear Og_31
        have Oh_32 := hide ((unhide Oh_31).below hb (Nat.le_refl _))
        clear Oh_31
        clear hb 
        go_wp2_with fail
        have HT33 := hide (implAre_any Au nu cu tu w32 (unhide Ou_32).rs (by omega) (unhide HNu))
        rw [hb5] at HT33
        refine (unhide HT33).mono ?_
        rintro e w33 ⟨rfl, hb⟩
        have HB33 := hide (below_next (unhide HB32) hb)
        have Ou_33 := hide ((unhide Ou_32).below hb (Nat.le_refl _))
        clear Ou_32
        have Og_33 := hide ((unhide Og_32).below hb (Nat.le_refl _))
        clear Og_32
        have Oh_33 := hide ((unhide Oh_32).below hb (Nat.le_refl _))
        clear Oh_32
        clear hb 
        clear HT33
        go_wp2_with fail
        have HT34 := hide (specAre_any Au nu cu tu w33 (unhide Ou_33).rs (by omega) (unhide HNu))
        rw [hb5] at HT34
        refine (unhide HT34).mono ?_
        rintro e w34 ⟨rfl, hb⟩
        have HB34 := hide (below_next (unhide HB33) hb)
        have Ou_34 := hide ((unhide Ou_33).below hb (Nat.le_refl _))
        clear Ou_33
        have Og_34 := hide ((unhide Og_33).below hb (Nat.le_refl _))
        clear Og_33
        have Oh_34 := hide ((unhide Oh_33).below hb (Nat.le_refl _))
        clear Oh_33
        clear hb 
        clear HT34
        go_wp2_with fail
        go_ret
        exact ⟨rfl, unhide HB34⟩
end Go.Proofs.Ytihkocplgciifaa
