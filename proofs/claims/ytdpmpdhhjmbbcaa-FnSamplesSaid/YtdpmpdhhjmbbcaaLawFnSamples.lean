/- The walk of the law FnSamples: it says true, at every input; what was there stays as it was. (By gen_FnSamples.py.) -/
import Derived.Test.YtdpmpdhhjmbbcaaProg
import Derived.Test.YtdpmpdhhjmbbcaaDrawTk
import Derived.Test.YtdpmpdhhjmbbcaaSmpLaw
import Derived.Test.YtdpmpdhhjmbbcaaSameT
import Derived.Test.YtdpmpdhhjmbbcaaTraceB
import Derived.Test.YtdpmpdhhjmbbcaaTraceF
import Derived.Deep.DeepCutAuto
namespace Go.Proofs.Ytdpmpdhhjmbbcaa
open Go.RowKit
set_option linter.unusedVariables false

/-- a block held whole, carried like a row -/
def WhlO (w : World) (g : Nat) (t : TypeId) (cs : Array Value) : Prop := Whl w g t cs
theorem WhlO.below {w w' : World} {g : Nat} {t : TypeId} {cs : Array Value} (h : WhlO w g t cs) (hb : Below w.heap.size w w') (_ : w.heap.size ≤ w.heap.size) : WhlO w' g t cs := Whl.below h hb
theorem WhlO.alloc {w : World} {g : Nat} {t : TypeId} {cs : Array Value} (h : WhlO w g t cs) (o : Obj) : WhlO (w.alloc o) g t cs := Whl.alloc h o
theorem WhlO.cell {w : World} {g : Nat} {t : TypeId} {cs : Array Value} (h : WhlO w g t cs) (i : Nat) : w.cell? ⟨g, i, none⟩ = cs[i]? := Whl.cell h i
theorem bool_same (b : Bool) : (b != b) = false := by simp
theorem beq_same (b : Bool) : (b == b) = true := by simp
theorem int_same (b : Int) : (b != b) = false := by simp
theorem ieq_same (b : Int) : (b == b) = true := by simp
set_option maxHeartbeats 16000000 in
set_option maxRecDepth 100000 in
theorem law_FnSamples (A : Option Addr) (n c : Nat) (xs : List Int) (w : World) (hr : RB w w.heap.size A n xs) :
    Calls Try.prog 11 #[.slice A n c] w fun e w' => e = .returned (.bool true) ∧ Below w.heap.size w w' := by
  have HR := hide (fun (W : World) (hb : Below w.heap.size w W) => RB.later hr hb)
  have HB0 := hide (Below.refl w.heap.size w)
  clear hr
  go_enter Try.func11, Try.ntmps11
  go_wp2_with fail
  refine (vBig_any A n c w).mono ?_
  rintro e w1 ⟨rfl, rfl⟩
  by_cases hbig : 65536 < n
  · have hbt : decide (65536 < n) = true := by simpa using hbig
    go_wp2_with fail
    go_ret
    exact ⟨rfl, Below.refl _ _⟩
  have hbt : decide (65536 < n) = false := by simpa using hbig
  have hn : n ≤ 65536 := by omega
  clear hbig
  go_wp2_with fail
  refine (drawLargestSample_any A n c xs _ (unhide HR _ (unhide HB0)) hn).mono ?_
  rintro e w1 ⟨stl, sal, Al, nl, cl, tl, rfl, hO, hnl, hysl, hb⟩
  have HB1 := hide (below_next (unhide HB0) hb)
  have Ol_1 := hide hO
  clear hb hO
  clear hysl
  have OBl_2 := hide (show WhlO (w1.alloc (.cells #[.int .i64 stl, .int .i64 sal, .slice Al nl cl] 27)) w1.heap.size 27 #[.int .i64 stl, .int .i64 sal, .slice Al nl cl] from Whl.here w1 _ _)
  have HB2 := hide ((unhide HB1).alloc (unhide HB1).size (.cells #[.int .i64 stl, .int .i64 sal, .slice Al nl cl] 27))
  have Ol_2 := hide ((unhide Ol_1).alloc (.cells #[.int .i64 stl, .int .i64 sal, .slice Al nl cl] 27))
  clear Ol_1
  have kl0 : (w1.alloc (.cells #[.int .i64 stl, .int .i64 sal, .slice Al nl cl] 27)).cell? ⟨w1.heap.size, 0, none⟩ = some (.int .i64 stl) := (unhide OBl_2).cell 0
  have kl1 : (w1.alloc (.cells #[.int .i64 stl, .int .i64 sal, .slice Al nl cl] 27)).cell? ⟨w1.heap.size, 1, none⟩ = some (.int .i64 sal) := (unhide OBl_2).cell 1
  have kl2 : (w1.alloc (.cells #[.int .i64 stl, .int .i64 sal, .slice Al nl cl] 27)).cell? ⟨w1.heap.size, 2, none⟩ = some (.slice Al nl cl) := (unhide OBl_2).cell 2
  go_wp2_with fail
  generalize w1.heap.size = gl at *
  generalize w1.alloc (.cells #[.int .i64 stl, .int .i64 sal, .slice Al nl cl] 27) = w2 at *
  obtain ⟨tk, most, b, hlg⟩ : ∃ p q r, lgR stl sal tl = (p, q, r) := ⟨_, _, _, rfl⟩
  have HT3 := hide (implLargest_any stl sal Al nl cl tl w2 (unhide Ol_2).ri (by omega))
  rw [hlg] at HT3
  refine (unhide HT3).mono ?_
  rintro e w3 ⟨rfl, hb⟩
  have HB3 := hide (below_next (unhide HB2) hb)
  have Ol_3 := hide ((unhide Ol_2).below hb (Nat.le_refl _))
  clear Ol_2
  have OBl_3 := hide ((unhide OBl_2).below hb (Nat.le_refl _))
  clear OBl_2
  clear hb 
  clear HT3
  clear kl0 kl1 kl2
  have kl0 : w3.cell? ⟨gl, 0, none⟩ = some (.int .i64 stl) := (unhide OBl_3).cell 0
  have kl1 : w3.cell? ⟨gl, 1, none⟩ = some (.int .i64 sal) := (unhide OBl_3).cell 1
  have kl2 : w3.cell? ⟨gl, 2, none⟩ = some (.slice Al nl cl) := (unhide OBl_3).cell 2
  go_wp2_with fail
  have HT4 := hide (specLargest_any stl sal Al nl cl tl w3 (unhide Ol_3).ri (by omega))
  rw [hlg] at HT4
  refine (unhide HT4).mono ?_
  rintro e w4 ⟨rfl, hb⟩
  have HB4 := hide (below_next (unhide HB3) hb)
  have Ol_4 := hide ((unhide Ol_3).below hb (Nat.le_refl _))
  clear Ol_3
  have OBl_4 := hide ((unhide OBl_3).below hb (Nat.le_refl _))
  clear OBl_3
  clear hb 
  clear HT4
  have e1 := bool_same b
  have e2 := int_same tk
  have e3 := int_same most
  clear kl0 kl1 kl2
  go_upto_if 72 with (fail)
  go_cut [] (fun wx => Hid (Below w.heap.size w wx))
  case first =>
    rcases b with _ | _
    · skip
      go_wp2_with fail
      go_meet
      exact unhide HB4
    · skip
      obtain ⟨h1, h2, h3, h4⟩ := lg_yes hlg
      have HL4 := hide h4
      clear h4 hlg
      have HLN := hide ((unhide Ol_4)).len
      have kl0 : w4.cell? ⟨gl, 0, none⟩ = some (.int .i64 stl) := (unhide OBl_4).cell 0
      have kl1 : w4.cell? ⟨gl, 1, none⟩ = some (.int .i64 sal) := (unhide OBl_4).cell 1
      have kl2 : w4.cell? ⟨gl, 2, none⟩ = some (.slice Al nl cl) := (unhide OBl_4).cell 2
      go_wp2_with fail
      have HT5 := hide (implSampleAt_any stl sal Al nl cl tl tk w4 (unhide Ol_4).ri (by omega))
      rw [h1, if_pos rfl, h2] at HT5
      refine (unhide HT5).mono ?_
      rintro e w5 ⟨rfl, hb⟩
      have HB5 := hide (below_next (unhide HB4) hb)
      have Ol_5 := hide ((unhide Ol_4).below hb (Nat.le_refl _))
      clear Ol_4
      have OBl_5 := hide ((unhide OBl_4).below hb (Nat.le_refl _))
      clear OBl_4
      clear hb 
      clear HT5
      clear h1 h2
      clear kl0 kl1 kl2
      go_wp2_with fail
      go_loopw [12] (fun i wr => ∃ k : Nat, k ≤ nl ∧ i = .int .i64 k ∧ Hid (Below w5.heap.size w5 wr)) (fun i _ => nl - (intOf i).toNat)
      case atStart => exact ⟨0, Nat.zero_le _, rfl, Below.refl _ _⟩
      case round =>
        obtain ⟨k, hk, rfl, hB⟩ := hrel
        have hWr := (unhide OBl_5).below (unhide hB) (Nat.le_refl _)
        have k2 : wr.cell? ⟨gl, 2, none⟩ = some (.slice Al nl cl) := hWr.cell 2
        have hOr := (unhide Ol_5).below (unhide hB) (Nat.le_refl _)
        clear hWr
        by_cases hlt : k < nl
        · skip
          obtain ⟨ad, x, rfl, hbx, hx, c0⟩ := hOr.ri.get hlt
          obtain ⟨hxb, hxm⟩ := unhide HL4 k x (unhide hx)
          have HQ1 := hide (fun (W : World) => vSize_any x W hxb)
          have HQ2 := hide (fun (W : World) => vSize_any most W h3)
          have hgt : ¬ max most (-most) < max x (-x) := by unfold absI at hxm; omega
          have hgt2 : decide (max most (-most) < max x (-x)) = false := decide_eq_false hgt
          have l1 : (k : Int) < (nl : Int) := by omega
          have l2 : (0 : Int) ≤ (k : Int) := by omega
          clear hx hbx hOr hxm hxb
          generalize max most (-most) = u1 at *
          generalize max x (-x) = u2 at *
          go_wp2_with fail
          first
            | (go_quiet ((first | (go_at_call 38; first | with_reducible exact Calls.quiet_of_same ((unhide HQ1 _).mono fun _ _ ⟨a, b⟩ => ⟨a, b.symm⟩) | with_reducible exact Calls.quiet_of_same ((unhide HQ2 _).mono fun _ _ ⟨a, b⟩ => ⟨a, b.symm⟩))))
               go_wp2_with fail
               go_roundw
               case rel => exact ⟨k + 1, by omega, by go_num, below_next (unhide hB) (below_drewN (Below.refl _ _) _)⟩
               case measure => simp [intOf] <;> omega)
            | (refine (unhide HQ1 _).mono ?_
               rintro e wq ⟨rfl, rfl⟩
               go_wp2_with fail
               refine (unhide HQ2 _).mono ?_
               rintro e wq ⟨rfl, rfl⟩
               go_wp2_with fail
               go_roundw
               case rel => exact ⟨k + 1, by omega, by go_num, hB⟩
               case measure => simp [intOf] <;> omega)
        · have l1 : ¬ (k : Int) < (nl : Int) := by omega
          go_wp2_with fail
          go_meet
          exact below_next (unhide HB5) (unhide hB)
  case rest =>
    generalize wc = w10 at *
    have HB10 := hide hcut
    clear hcut
    go_wp2_with fail
    refine (drawSubtractLevel_any A n c xs _ (unhide HR _ (unhide HB10)) hn).mono ?_
    rintro e w11 ⟨stx, sax, Ax, nx, cx, tx, lv, rfl, hO, hnx, hysx, hb⟩
    have HB11 := hide (below_next (unhide HB10) hb)
    have Ox_11 := hide hO
    clear hb hO
    clear hysx
    have OBx_12 := hide (show WhlO (w11.alloc (.cells #[.int .i64 stx, .int .i64 sax, .slice Ax nx cx] 27)) w11.heap.size 27 #[.int .i64 stx, .int .i64 sax, .slice Ax nx cx] from Whl.here w11 _ _)
    have HB12 := hide ((unhide HB11).alloc (unhide HB11).size (.cells #[.int .i64 stx, .int .i64 sax, .slice Ax nx cx] 27))
    have Ox_12 := hide ((unhide Ox_11).alloc (.cells #[.int .i64 stx, .int .i64 sax, .slice Ax nx cx] 27))
    clear Ox_11
    have kx0 : (w11.alloc (.cells #[.int .i64 stx, .int .i64 sax, .slice Ax nx cx] 27)).cell? ⟨w11.heap.size, 0, none⟩ = some (.int .i64 stx) := (unhide OBx_12).cell 0
    have kx1 : (w11.alloc (.cells #[.int .i64 stx, .int .i64 sax, .slice Ax nx cx] 27)).cell? ⟨w11.heap.size, 1, none⟩ = some (.int .i64 sax) := (unhide OBx_12).cell 1
    have kx2 : (w11.alloc (.cells #[.int .i64 stx, .int .i64 sax, .slice Ax nx cx] 27)).cell? ⟨w11.heap.size, 2, none⟩ = some (.slice Ax nx cx) := (unhide OBx_12).cell 2
    go_wp2_with fail
    generalize w11.heap.size = gx at *
    generalize w11.alloc (.cells #[.int .i64 stx, .int .i64 sax, .slice Ax nx cx] 27) = w12 at *
    obtain ⟨sta, sb, ds, b2, hsub⟩ : ∃ p q r s, subR stx sax tx lv = (p, q, r, s) := ⟨_, _, _, _, rfl⟩
    have HT13 := hide (implSub_any stx sax Ax nx cx tx lv w12 (unhide Ox_12).ri (by omega))
    rw [hsub] at HT13
    refine (unhide HT13).mono ?_
    rintro e w13 ⟨Aa, na, ca, rfl, hO, hb⟩
    have HB13 := hide (below_next (unhide HB12) hb)
    have Ox_13 := hide ((unhide Ox_12).below hb (Nat.le_refl _))
    clear Ox_12
    have OBx_13 := hide ((unhide OBx_12).below hb (Nat.le_refl _))
    clear OBx_12
    have Oa_13 := hide hO
    clear hb hO
    clear HT13
    clear kx0 kx1 kx2
    have OBa_14 := hide (show WhlO (w13.alloc (.cells #[.int .i64 sta, .int .i64 sb, .slice Aa na ca] 27)) w13.heap.size 27 #[.int .i64 sta, .int .i64 sb, .slice Aa na ca] from Whl.here w13 _ _)
    have HB14 := hide ((unhide HB13).alloc (unhide HB13).size (.cells #[.int .i64 sta, .int .i64 sb, .slice Aa na ca] 27))
    have Ox_14 := hide ((unhide Ox_13).alloc (.cells #[.int .i64 sta, .int .i64 sb, .slice Aa na ca] 27))
    clear Ox_13
    have OBx_14 := hide ((unhide OBx_13).alloc (.cells #[.int .i64 sta, .int .i64 sb, .slice Aa na ca] 27))
    clear OBx_13
    have Oa_14 := hide ((unhide Oa_13).alloc (.cells #[.int .i64 sta, .int .i64 sb, .slice Aa na ca] 27))
    clear Oa_13
    have kx0 : (w13.alloc (.cells #[.int .i64 sta, .int .i64 sb, .slice Aa na ca] 27)).cell? ⟨gx, 0, none⟩ = some (.int .i64 stx) := (unhide OBx_14).cell 0
    have kx1 : (w13.alloc (.cells #[.int .i64 sta, .int .i64 sb, .slice Aa na ca] 27)).cell? ⟨gx, 1, none⟩ = some (.int .i64 sax) := (unhide OBx_14).cell 1
    have kx2 : (w13.alloc (.cells #[.int .i64 sta, .int .i64 sb, .slice Aa na ca] 27)).cell? ⟨gx, 2, none⟩ = some (.slice Ax nx cx) := (unhide OBx_14).cell 2
    go_wp2_with fail
    generalize w13.heap.size = ga at *
    generalize w13.alloc (.cells #[.int .i64 sta, .int .i64 sb, .slice Aa na ca] 27) = w14 at *
    have HT15 := hide (specSub_any stx sax Ax nx cx tx lv w14 (unhide Ox_14).ri (by omega))
    rw [hsub] at HT15
    refine (unhide HT15).mono ?_
    rintro e w15 ⟨Az, nz, cz, rfl, hO, hb⟩
    have HB15 := hide (below_next (unhide HB14) hb)
    have Ox_15 := hide ((unhide Ox_14).below hb (Nat.le_refl _))
    clear Ox_14
    have OBx_15 := hide ((unhide OBx_14).below hb (Nat.le_refl _))
    clear OBx_14
    have Oa_15 := hide ((unhide Oa_14).below hb (Nat.le_refl _))
    clear Oa_14
    have OBa_15 := hide ((unhide OBa_14).below hb (Nat.le_refl _))
    clear OBa_14
    have Oz_15 := hide hO
    clear hb hO
    clear HT15
    clear kx0 kx1 kx2
    have e4 := bool_same b2
    have OBz_16 := hide (show WhlO (w15.alloc (.cells #[.int .i64 sta, .int .i64 sb, .slice Az nz cz] 27)) w15.heap.size 27 #[.int .i64 sta, .int .i64 sb, .slice Az nz cz] from Whl.here w15 _ _)
    have HB16 := hide ((unhide HB15).alloc (unhide HB15).size (.cells #[.int .i64 sta, .int .i64 sb, .slice Az nz cz] 27))
    have Ox_16 := hide ((unhide Ox_15).alloc (.cells #[.int .i64 sta, .int .i64 sb, .slice Az nz cz] 27))
    clear Ox_15
    have OBx_16 := hide ((unhide OBx_15).alloc (.cells #[.int .i64 sta, .int .i64 sb, .slice Az nz cz] 27))
    clear OBx_15
    have Oa_16 := hide ((unhide Oa_15).alloc (.cells #[.int .i64 sta, .int .i64 sb, .slice Az nz cz] 27))
    clear Oa_15
    have OBa_16 := hide ((unhide OBa_15).alloc (.cells #[.int .i64 sta, .int .i64 sb, .slice Az nz cz] 27))
    clear OBa_15
    have Oz_16 := hide ((unhide Oz_15).alloc (.cells #[.int .i64 sta, .int .i64 sb, .slice Az nz cz] 27))
    clear Oz_15
    have ka0 : (w15.alloc (.cells #[.int .i64 sta, .int .i64 sb, .slice Az nz cz] 27)).cell? ⟨ga, 0, none⟩ = some (.int .i64 sta) := (unhide OBa_16).cell 0
    have ka1 : (w15.alloc (.cells #[.int .i64 sta, .int .i64 sb, .slice Az nz cz] 27)).cell? ⟨ga, 1, none⟩ = some (.int .i64 sb) := (unhide OBa_16).cell 1
    have ka2 : (w15.alloc (.cells #[.int .i64 sta, .int .i64 sb, .slice Az nz cz] 27)).cell? ⟨ga, 2, none⟩ = some (.slice Aa na ca) := (unhide OBa_16).cell 2
    have kz0 : (w15.alloc (.cells #[.int .i64 sta, .int .i64 sb, .slice Az nz cz] 27)).cell? ⟨w15.heap.size, 0, none⟩ = some (.int .i64 sta) := (unhide OBz_16).cell 0
    have kz1 : (w15.alloc (.cells #[.int .i64 sta, .int .i64 sb, .slice Az nz cz] 27)).cell? ⟨w15.heap.size, 1, none⟩ = some (.int .i64 sb) := (unhide OBz_16).cell 1
    have kz2 : (w15.alloc (.cells #[.int .i64 sta, .int .i64 sb, .slice Az nz cz] 27)).cell? ⟨w15.heap.size, 2, none⟩ = some (.slice Az nz cz) := (unhide OBz_16).cell 2
    go_wp2_with fail
    generalize w15.heap.size = gz at *
    generalize w15.alloc (.cells #[.int .i64 sta, .int .i64 sb, .slice Az nz cz] 27) = w16 at *
    have HT17 := hide (vTrace_same sta sb Aa Az na nz ca cz ds w16 (unhide Oa_16).ri (unhide Oz_16).ri (unhide Oa_16).max)
    refine (unhide HT17).mono ?_
    rintro e w17 ⟨rfl, hb⟩
    have HB17 := hide (below_next (unhide HB16) hb)
    have Ox_17 := hide ((unhide Ox_16).below hb (Nat.le_refl _))
    clear Ox_16
    have OBx_17 := hide ((unhide OBx_16).below hb (Nat.le_refl _))
    clear OBx_16
    have Oa_17 := hide ((unhide Oa_16).below hb (Nat.le_refl _))
    clear Oa_16
    have OBa_17 := hide ((unhide OBa_16).below hb (Nat.le_refl _))
    clear OBa_16
    have Oz_17 := hide ((unhide Oz_16).below hb (Nat.le_refl _))
    clear Oz_16
    have OBz_17 := hide ((unhide OBz_16).below hb (Nat.le_refl _))
    clear OBz_16
    clear hb 
    clear HT17
    clear ka0 ka1 ka2 kz0 kz1 kz2
    clear Oz_17
    clear OBz_17
    have kx0 : w17.cell? ⟨gx, 0, none⟩ = some (.int .i64 stx) := (unhide OBx_17).cell 0
    have kx1 : w17.cell? ⟨gx, 1, none⟩ = some (.int .i64 sax) := (unhide OBx_17).cell 1
    have kx2 : w17.cell? ⟨gx, 2, none⟩ = some (.slice Ax nx cx) := (unhide OBx_17).cell 2
    go_upto_region 22 with (fail)
    go_cut [134] (fun v wx => wx = w17 ∧ (v = .bool false ∨ (v = .bool true ∧ Hid (b2 = true ∧ 0 < nx))))
    case first =>
      rcases b2 with _ | _
      · go_wp2_with fail
        go_meet
        exact ⟨rfl, .inl rfl⟩
      · by_cases hlx : 0 < nx
        · have l1 : (0 : Int) < (nx : Int) := by omega
          have l2 : decide ((0 : Int) < (nx : Int)) = true := decide_eq_true l1
          go_wp2_with fail
          go_meet
          exact ⟨rfl, .inr ⟨rfl, rfl, hlx⟩⟩
        · have l1 : ¬ (0 : Int) < (nx : Int) := by omega
          have l2 : decide ((0 : Int) < (nx : Int)) = false := decide_eq_false l1
          go_wp2_with fail
          go_meet
          exact ⟨rfl, .inl rfl⟩
    case rest =>
      obtain ⟨rfl, hcs⟩ := hcut
      generalize wc = w17 at *
      clear kx0 kx1 kx2
      go_upto_if 134 with (fail)
      go_cut [] (fun wx => Hid (Below w.heap.size w wx))
      case first =>
        rcases hcs with rfl | ⟨rfl, hcs⟩
        · skip
          go_wp2_with fail
          go_meet
          exact unhide HB17
        · skip
          obtain ⟨hb2, hlx⟩ := unhide hcs
          clear hcs
          subst hb2
          obtain ⟨p, q, c2, d2, hm1, hm2, heq, ⟨hq1, hq2⟩, ⟨hd1, hd2⟩, ⟨hp1, hp2⟩, ⟨hc1, hc2⟩, hv1, hv2⟩ := sub_mean hsub (by have := (unhide Ox_17).len; omega)
          have hna : na ≤ 24 := by
            have h5 := (sub_yes hsub).2.2.2.2.1
            have h6 := smpB_len (goodB_parts h5).2.2.1
            have h7 := (unhide Oa_17).len
            omega
          have HEQ := hide heq
          have l1 : (0 : Int) < (nx : Int) := by omega
          clear hsub heq
          have kx0 : w17.cell? ⟨gx, 0, none⟩ = some (.int .i64 stx) := (unhide OBx_17).cell 0
          have kx1 : w17.cell? ⟨gx, 1, none⟩ = some (.int .i64 sax) := (unhide OBx_17).cell 1
          have kx2 : w17.cell? ⟨gx, 2, none⟩ = some (.slice Ax nx cx) := (unhide OBx_17).cell 2
          go_wp2_with fail
          have HT18 := hide (implMean_any stx sax Ax nx cx tx w17 (unhide Ox_17).ri (by omega))
          rw [hm1] at HT18
          refine (unhide HT18).mono ?_
          rintro e w18 ⟨rfl, hb⟩
          have HB18 := hide (below_next (unhide HB17) hb)
          have Ox_18 := hide ((unhide Ox_17).below hb (Nat.le_refl _))
          clear Ox_17
          have OBx_18 := hide ((unhide OBx_17).below hb (Nat.le_refl _))
          clear OBx_17
          have Oa_18 := hide ((unhide Oa_17).below hb (Nat.le_refl _))
          clear Oa_17
          have OBa_18 := hide ((unhide OBa_17).below hb (Nat.le_refl _))
          clear OBa_17
          clear hb 
          clear HT18
          clear kx0 kx1 kx2
          have ka0 : w18.cell? ⟨ga, 0, none⟩ = some (.int .i64 sta) := (unhide OBa_18).cell 0
          have ka1 : w18.cell? ⟨ga, 1, none⟩ = some (.int .i64 sb) := (unhide OBa_18).cell 1
          have ka2 : w18.cell? ⟨ga, 2, none⟩ = some (.slice Aa na ca) := (unhide OBa_18).cell 2
          go_wp2_with fail
          have HT19 := hide (implMean_any sta sb Aa na ca ds w18 (unhide Oa_18).ri (by omega))
          rw [hm2] at HT19
          refine (unhide HT19).mono ?_
          rintro e w19 ⟨rfl, hb⟩
          have HB19 := hide (below_next (unhide HB18) hb)
          have Ox_19 := hide ((unhide Ox_18).below hb (Nat.le_refl _))
          clear Ox_18
          have OBx_19 := hide ((unhide OBx_18).below hb (Nat.le_refl _))
          clear OBx_18
          have Oa_19 := hide ((unhide Oa_18).below hb (Nat.le_refl _))
          clear Oa_18
          have OBa_19 := hide ((unhide OBa_18).below hb (Nat.le_refl _))
          clear OBa_18
          clear hb 
          clear HT19
          clear ka0 ka1 ka2
          have q1 : -2400000 ≤ lv * q ∧ lv * q ≤ 2400000 := by
            have a1 : lv * q ≤ 100000 * q := Int.mul_le_mul_of_nonneg_right hv2 (by omega)
            have a2 : -100000 * q ≤ lv * q := Int.mul_le_mul_of_nonneg_right hv1 (by omega)
            omega
          have w1_ : IntKind.i64.wrap (lv * q) = lv * q := IntWalk.i64_in _ (by omega)
          have w2_ : IntKind.i64.wrap (p - lv * q) = p - lv * q := IntWalk.i64_in _ (by omega)
          have q2 : -57600000 ≤ c2 * q ∧ c2 * q ≤ 57600000 := by
            have a1 : c2 * q ≤ 2400000 * q := Int.mul_le_mul_of_nonneg_right hc2 (by omega)
            have a2 : -2400000 * q ≤ c2 * q := Int.mul_le_mul_of_nonneg_right hc1 (by omega)
            omega
          have w3_ : IntKind.i64.wrap (c2 * q) = c2 * q := IntWalk.i64_in _ (by omega)
          have w4_ : IntKind.i64.wrap ((p - lv * q) * d2) = c2 * q := by rw [unhide HEQ]; exact w3_
          have w5_ := int_same (c2 * q)
          clear q1 q2 hq1 hq2 hd1 hd2 hp1 hp2 hc1 hc2 hv1 hv2 hm1 hm2
          go_wp2_with fail
          go_meet
          exact unhide HB19
      case rest =>
        generalize wc = w28 at *
        have HB28 := hide hcut
        clear hcut
        go_wp2_with fail
        refine (drawMeanOf_any A n c xs _ (unhide HR _ (unhide HB28)) hn).mono ?_
        rintro e w29 ⟨sty, say, Ay, ny, cy, ty, rfl, hO, hny, hysy, hb⟩
        have HB29 := hide (below_next (unhide HB28) hb)
        have Oy_29 := hide hO
        clear hb hO
        clear hysy
        have OBy_30 := hide (show WhlO (w29.alloc (.cells #[.int .i64 sty, .int .i64 say, .slice Ay ny cy] 27)) w29.heap.size 27 #[.int .i64 sty, .int .i64 say, .slice Ay ny cy] from Whl.here w29 _ _)
        have HB30 := hide ((unhide HB29).alloc (unhide HB29).size (.cells #[.int .i64 sty, .int .i64 say, .slice Ay ny cy] 27))
        have Oy_30 := hide ((unhide Oy_29).alloc (.cells #[.int .i64 sty, .int .i64 say, .slice Ay ny cy] 27))
        clear Oy_29
        have ky0 : (w29.alloc (.cells #[.int .i64 sty, .int .i64 say, .slice Ay ny cy] 27)).cell? ⟨w29.heap.size, 0, none⟩ = some (.int .i64 sty) := (unhide OBy_30).cell 0
        have ky1 : (w29.alloc (.cells #[.int .i64 sty, .int .i64 say, .slice Ay ny cy] 27)).cell? ⟨w29.heap.size, 1, none⟩ = some (.int .i64 say) := (unhide OBy_30).cell 1
        have ky2 : (w29.alloc (.cells #[.int .i64 sty, .int .i64 say, .slice Ay ny cy] 27)).cell? ⟨w29.heap.size, 2, none⟩ = some (.slice Ay ny cy) := (unhide OBy_30).cell 2
        go_wp2_with fail
        generalize w29.heap.size = gy at *
        generalize w29.alloc (.cells #[.int .i64 sty, .int .i64 say, .slice Ay ny cy] 27) = w30 at *
        obtain ⟨mp, mq, b3, hmn⟩ : ∃ p q r, mnR sty say ty = (p, q, r) := ⟨_, _, _, rfl⟩
        have HT31 := hide (implMean_any sty say Ay ny cy ty w30 (unhide Oy_30).ri (by omega))
        rw [hmn] at HT31
        refine (unhide HT31).mono ?_
        rintro e w31 ⟨rfl, hb⟩
        have HB31 := hide (below_next (unhide HB30) hb)
        have Oy_31 := hide ((unhide Oy_30).below hb (Nat.le_refl _))
        clear Oy_30
        have OBy_31 := hide ((unhide OBy_30).below hb (Nat.le_refl _))
        clear OBy_30
        clear hb 
        clear HT31
        clear ky0 ky1 ky2
        have ky0 : w31.cell? ⟨gy, 0, none⟩ = some (.int .i64 sty) := (unhide OBy_31).cell 0
        have ky1 : w31.cell? ⟨gy, 1, none⟩ = some (.int .i64 say) := (unhide OBy_31).cell 1
        have ky2 : w31.cell? ⟨gy, 2, none⟩ = some (.slice Ay ny cy) := (unhide OBy_31).cell 2
        go_wp2_with fail
        have HT32 := hide (specMean_any sty say Ay ny cy ty w31 (unhide Oy_31).ri (by omega))
        rw [hmn] at HT32
        refine (unhide HT32).mono ?_
        rintro e w32 ⟨rfl, hb⟩
        have HB32 := hide (below_next (unhide HB31) hb)
        have Oy_32 := hide ((unhide Oy_31).below hb (Nat.le_refl _))
        clear Oy_31
        have OBy_32 := hide ((unhide OBy_31).below hb (Nat.le_refl _))
        clear OBy_31
        clear hb 
        clear HT32
        clear ky0 ky1 ky2
        have e5 := bool_same b3
        have e6 := int_same mp
        have e7 := int_same mq
        clear Oy_32
        clear OBy_32
        go_wp2_with fail
        refine (drawCrossings_any A n c xs _ (unhide HR _ (unhide HB32)) hn).mono ?_
        rintro e w33 ⟨stz, saz, Az, nz, cz, tz, rfl, hO, hnz, hysz, hb⟩
        have HB33 := hide (below_next (unhide HB32) hb)
        have Oz_33 := hide hO
        clear hb hO
        clear hysz
        have OBz_34 := hide (show WhlO (w33.alloc (.cells #[.int .i64 stz, .int .i64 saz, .slice Az nz cz] 27)) w33.heap.size 27 #[.int .i64 stz, .int .i64 saz, .slice Az nz cz] from Whl.here w33 _ _)
        have HB34 := hide ((unhide HB33).alloc (unhide HB33).size (.cells #[.int .i64 stz, .int .i64 saz, .slice Az nz cz] 27))
        have Oz_34 := hide ((unhide Oz_33).alloc (.cells #[.int .i64 stz, .int .i64 saz, .slice Az nz cz] 27))
        clear Oz_33
        have kz0 : (w33.alloc (.cells #[.int .i64 stz, .int .i64 saz, .slice Az nz cz] 27)).cell? ⟨w33.heap.size, 0, none⟩ = some (.int .i64 stz) := (unhide OBz_34).cell 0
        have kz1 : (w33.alloc (.cells #[.int .i64 stz, .int .i64 saz, .slice Az nz cz] 27)).cell? ⟨w33.heap.size, 1, none⟩ = some (.int .i64 saz) := (unhide OBz_34).cell 1
        have kz2 : (w33.alloc (.cells #[.int .i64 stz, .int .i64 saz, .slice Az nz cz] 27)).cell? ⟨w33.heap.size, 2, none⟩ = some (.slice Az nz cz) := (unhide OBz_34).cell 2
        go_wp2_with fail
        generalize w33.heap.size = gz at *
        generalize w33.alloc (.cells #[.int .i64 stz, .int .i64 saz, .slice Az nz cz] 27) = w34 at *
        obtain ⟨cr, b4, hcr, hcb⟩ : ∃ p q, (if goodB stz saz tz = true then crossI saz tz tz.length else []) = p ∧ goodB stz saz tz = q := ⟨_, _, rfl, rfl⟩
        have HT35 := hide (implCross_any stz saz Az nz cz tz w34 (unhide Oz_34).ri (by omega))
        rw [hcr, hcb] at HT35
        refine (unhide HT35).mono ?_
        rintro e w35 ⟨Ap, np, cp, rfl, hO, hb⟩
        have HB35 := hide (below_next (unhide HB34) hb)
        have Oz_35 := hide ((unhide Oz_34).below hb (Nat.le_refl _))
        clear Oz_34
        have OBz_35 := hide ((unhide OBz_34).below hb (Nat.le_refl _))
        clear OBz_34
        have Op_35 := hide hO
        clear hb hO
        clear HT35
        clear kz0 kz1 kz2
        have kz0 : w35.cell? ⟨gz, 0, none⟩ = some (.int .i64 stz) := (unhide OBz_35).cell 0
        have kz1 : w35.cell? ⟨gz, 1, none⟩ = some (.int .i64 saz) := (unhide OBz_35).cell 1
        have kz2 : w35.cell? ⟨gz, 2, none⟩ = some (.slice Az nz cz) := (unhide OBz_35).cell 2
        go_wp2_with fail
        have HT36 := hide (specCross_any stz saz Az nz cz tz w35 (unhide Oz_35).ri (by omega))
        rw [hcr, hcb] at HT36
        refine (unhide HT36).mono ?_
        rintro e w36 ⟨Aq, nq, cq, rfl, hO, hb⟩
        have HB36 := hide (below_next (unhide HB35) hb)
        have Oz_36 := hide ((unhide Oz_35).below hb (Nat.le_refl _))
        clear Oz_35
        have OBz_36 := hide ((unhide OBz_35).below hb (Nat.le_refl _))
        clear OBz_35
        have Op_36 := hide ((unhide Op_35).below hb (Nat.le_refl _))
        clear Op_35
        have Oq_36 := hide hO
        clear hb hO
        clear HT36
        clear kz0 kz1 kz2
        have e8 := bool_same b4
        go_wp2_with fail
        have HT37 := hide (vInts_same Ap Aq np nq cp cq _ _ cr w36 (unhide Op_36).ri (unhide Oq_36).ri (unhide Op_36).max)
        refine (unhide HT37).mono ?_
        rintro e w37 ⟨rfl, hb⟩
        have HB37 := hide (below_next (unhide HB36) hb)
        have Oz_37 := hide ((unhide Oz_36).below hb (Nat.le_refl _))
        clear Oz_36
        have OBz_37 := hide ((unhide OBz_36).below hb (Nat.le_refl _))
        clear OBz_36
        have Op_37 := hide ((unhide Op_36).below hb (Nat.le_refl _))
        clear Op_36
        have Oq_37 := hide ((unhide Oq_36).below hb (Nat.le_refl _))
        clear Oq_36
        clear hb 
        clear HT37
        clear Op_37
        clear Oq_37
        clear Oz_37
        clear OBz_37
        go_wp2_with fail
        refine (drawSampleAt_any A n c xs _ (unhide HR _ (unhide HB37)) hn).mono ?_
        rintro e w38 ⟨stu, sau, Au, nu, cu, tu, at5, rfl, hO, hnu, hysu, hb⟩
        have HB38 := hide (below_next (unhide HB37) hb)
        have Ou_38 := hide hO
        clear hb hO
        clear hysu
        have OBu_39 := hide (show WhlO (w38.alloc (.cells #[.int .i64 stu, .int .i64 sau, .slice Au nu cu] 27)) w38.heap.size 27 #[.int .i64 stu, .int .i64 sau, .slice Au nu cu] from Whl.here w38 _ _)
        have HB39 := hide ((unhide HB38).alloc (unhide HB38).size (.cells #[.int .i64 stu, .int .i64 sau, .slice Au nu cu] 27))
        have Ou_39 := hide ((unhide Ou_38).alloc (.cells #[.int .i64 stu, .int .i64 sau, .slice Au nu cu] 27))
        clear Ou_38
        have ku0 : (w38.alloc (.cells #[.int .i64 stu, .int .i64 sau, .slice Au nu cu] 27)).cell? ⟨w38.heap.size, 0, none⟩ = some (.int .i64 stu) := (unhide OBu_39).cell 0
        have ku1 : (w38.alloc (.cells #[.int .i64 stu, .int .i64 sau, .slice Au nu cu] 27)).cell? ⟨w38.heap.size, 1, none⟩ = some (.int .i64 sau) := (unhide OBu_39).cell 1
        have ku2 : (w38.alloc (.cells #[.int .i64 stu, .int .i64 sau, .slice Au nu cu] 27)).cell? ⟨w38.heap.size, 2, none⟩ = some (.slice Au nu cu) := (unhide OBu_39).cell 2
        go_wp2_with fail
        generalize w38.heap.size = gu at *
        generalize w38.alloc (.cells #[.int .i64 stu, .int .i64 sau, .slice Au nu cu] 27) = w39 at *
        obtain ⟨v5, b5, hv5, hb5⟩ : ∃ p q, (if atB stu sau tu at5 = true then tu.getD (at5 - sau).toNat 0 else 0) = p ∧ atB stu sau tu at5 = q := ⟨_, _, rfl, rfl⟩
        have HT40 := hide (implSampleAt_any stu sau Au nu cu tu at5 w39 (unhide Ou_39).ri (by omega))
        rw [hv5, hb5] at HT40
        refine (unhide HT40).mono ?_
        rintro e w40 ⟨rfl, hb⟩
        have HB40 := hide (below_next (unhide HB39) hb)
        have Ou_40 := hide ((unhide Ou_39).below hb (Nat.le_refl _))
        clear Ou_39
        have OBu_40 := hide ((unhide OBu_39).below hb (Nat.le_refl _))
        clear OBu_39
        clear hb 
        clear HT40
        clear ku0 ku1 ku2
        have ku0 : w40.cell? ⟨gu, 0, none⟩ = some (.int .i64 stu) := (unhide OBu_40).cell 0
        have ku1 : w40.cell? ⟨gu, 1, none⟩ = some (.int .i64 sau) := (unhide OBu_40).cell 1
        have ku2 : w40.cell? ⟨gu, 2, none⟩ = some (.slice Au nu cu) := (unhide OBu_40).cell 2
        go_wp2_with fail
        have HT41 := hide (specSampleAt_any stu sau Au nu cu tu at5 w40 (unhide Ou_40).ri (by omega))
        rw [hv5, hb5] at HT41
        refine (unhide HT41).mono ?_
        rintro e w41 ⟨rfl, hb⟩
        have HB41 := hide (below_next (unhide HB40) hb)
        have Ou_41 := hide ((unhide Ou_40).below hb (Nat.le_refl _))
        clear Ou_40
        have OBu_41 := hide ((unhide OBu_40).below hb (Nat.le_refl _))
        clear OBu_40
        clear hb 
        clear HT41
        clear ku0 ku1 ku2
        have e9 := beq_same b5
        have e10 := ieq_same v5
        go_wp2_with fail
        go_ret
        exact ⟨rfl, unhide HB41⟩
end Go.Proofs.Ytdpmpdhhjmbbcaa
