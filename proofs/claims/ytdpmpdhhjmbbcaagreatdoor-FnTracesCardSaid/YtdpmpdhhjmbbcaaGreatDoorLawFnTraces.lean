/- The walk of the law FnTraces: it says true, at every input; what was there stays as it was. (By gen_FnTraces.py.) -/
import Derived.Test.YtdpmpdhhjmbbcaaGreatDoorProg
import Derived.Test.YtdpmpdhhjmbbcaaGreatDoorDrawCut
import Derived.Test.YtdpmpdhhjmbbcaaGreatDoorDrawPar
import Derived.Test.YtdpmpdhhjmbbcaaGreatDoorDrawJoin
import Derived.Test.YtdpmpdhhjmbbcaaGreatDoorTrcLaw
import Derived.Test.YtdpmpdhhjmbbcaaGreatDoorSameT
import Derived.Test.YtdpmpdhhjmbbcaaGreatDoorParB
import Derived.Test.YtdpmpdhhjmbbcaaGreatDoorTraceJ
import Derived.Deep.DeepCutAuto
namespace Go.Proofs.YtdpmpdhhjmbbcaaGreatDoor
open Go.RowKit
set_option linter.unusedVariables false

/-- a block held whole, carried like a row -/
def WhlO (w : World) (g : Nat) (t : TypeId) (cs : Array Value) : Prop := Whl w g t cs
theorem WhlO.below {w w' : World} {g : Nat} {t : TypeId} {cs : Array Value} (h : WhlO w g t cs) (hb : Below w.heap.size w w') (_ : w.heap.size ≤ w.heap.size) : WhlO w' g t cs := Whl.below h hb
theorem WhlO.alloc {w : World} {g : Nat} {t : TypeId} {cs : Array Value} (h : WhlO w g t cs) (o : Obj) : WhlO (w.alloc o) g t cs := Whl.alloc h o
theorem WhlO.cell {w : World} {g : Nat} {t : TypeId} {cs : Array Value} (h : WhlO w g t cs) (i : Nat) : w.cell? ⟨g, i, none⟩ = cs[i]? := Whl.cell h i
theorem bool_same (b : Bool) : (b != b) = false := by simp
theorem beq_same (b : Bool) : (b == b) = true := by simp
theorem str_same (s : ByteArray) : (s.toList != s.toList) = false := by simp
set_option maxHeartbeats 16000000 in
set_option maxRecDepth 100000 in
theorem law_FnTraces (A : Option Addr) (n c : Nat) (xs : List Int) (w : World) (hr : RB w w.heap.size A n xs) (hv : EnvP w) :
    Calls Tryz.prog 3 #[.slice A n c] w fun e w' => e = .returned (.bool true) ∧ Below w.heap.size w w' := by
  have HR := hide (fun (W : World) (hb : Below w.heap.size w W) => RB.later hr hb)
  have HV := hide (fun (W : World) (hb : Below w.heap.size w W) => hv.stays hb)
  have HB0 := hide (Below.refl w.heap.size w)
  clear hr hv
  go_enter Tryz.func3, Tryz.ntmps3
  go_wp2_with fail
  refine (vBig_any A n c w).mono ?_
  rintro e w1 ⟨rfl, rfl⟩
  by_cases hbig : 65536 < n
  · have hbt : decide (65536 < n) = true := by simpa using hbig
    go_wp2_with fail
    go_ret
    exact ⟨rfl, Below.refl _ _⟩
  have hbt : decide (65536 < n) = false := by simpa using hbig
  have hn : n ≤ 65536 := by omega
  clear hbig
  go_wp2_with fail
  refine (drawTraceText_any A n c xs _ (unhide HR _ (unhide HB0)) hn).mono ?_
  rintro e w1 ⟨stt, sat, At, nt, ct, tt, rfl, hO, hnt, hyst, hb⟩
  have HB1 := hide (below_next (unhide HB0) hb)
  have Ot_1 := hide hO
  clear hb hO
  clear hyst
  have OBt_2 := hide (show WhlO (w1.alloc (.cells #[.int .i64 stt, .int .i64 sat, .slice At nt ct] 26)) w1.heap.size 26 #[.int .i64 stt, .int .i64 sat, .slice At nt ct] from Whl.here w1 _ _)
  have HB2 := hide ((unhide HB1).alloc (unhide HB1).size (.cells #[.int .i64 stt, .int .i64 sat, .slice At nt ct] 26))
  have Ot_2 := hide ((unhide Ot_1).alloc (.cells #[.int .i64 stt, .int .i64 sat, .slice At nt ct] 26))
  clear Ot_1
  have kt0 : (w1.alloc (.cells #[.int .i64 stt, .int .i64 sat, .slice At nt ct] 26)).cell? ⟨w1.heap.size, 0, none⟩ = some (.int .i64 stt) := (unhide OBt_2).cell 0
  have kt1 : (w1.alloc (.cells #[.int .i64 stt, .int .i64 sat, .slice At nt ct] 26)).cell? ⟨w1.heap.size, 1, none⟩ = some (.int .i64 sat) := (unhide OBt_2).cell 1
  have kt2 : (w1.alloc (.cells #[.int .i64 stt, .int .i64 sat, .slice At nt ct] 26)).cell? ⟨w1.heap.size, 2, none⟩ = some (.slice At nt ct) := (unhide OBt_2).cell 2
  go_wp2_with fail
  generalize w1.heap.size = gt at *
  generalize w1.alloc (.cells #[.int .i64 stt, .int .i64 sat, .slice At nt ct] 26) = w2 at *
  obtain ⟨tx, ok, htx⟩ : ∃ p q, trxR stt sat tt = (p, q) := ⟨_, _, rfl⟩
  obtain ⟨hgd, hzx⟩ := trx_good htx
  have HT3 := hide (implTraceText_any stt sat At nt ct tt w2 (unhide Ot_2).ri (by omega) (unhide HV _ (unhide HB2)).tab)
  rw [htx] at HT3
  refine (unhide HT3).mono ?_
  rintro e w3 ⟨rfl, hb⟩
  have HB3 := hide (below_next (unhide HB2) hb)
  have Ot_3 := hide ((unhide Ot_2).below hb (Nat.le_refl _))
  clear Ot_2
  have OBt_3 := hide ((unhide OBt_2).below hb (Nat.le_refl _))
  clear OBt_2
  clear hb 
  clear HT3
  clear kt0 kt1 kt2
  go_wp2_with fail
  obtain ⟨pst, psa, pys, pok, hpr⟩ : ∃ p q r s, prR tx = (p, q, r, s) := ⟨_, _, _, _, rfl⟩
  have HPL : Hid (pys.length ≤ 24) := by have h9 := prR_len tx; rw [hpr] at h9; exact h9
  have HT4 := hide (implParse_any tx w3 (by omega) (unhide HV _ (unhide HB3)))
  rw [hpr] at HT4
  refine (unhide HT4).mono ?_
  rintro e w4 ⟨Ab, nb, cb, rfl, hO, hb⟩
  have HB4 := hide (below_next (unhide HB3) hb)
  have Ot_4 := hide ((unhide Ot_3).below hb (Nat.le_refl _))
  clear Ot_3
  have OBt_4 := hide ((unhide OBt_3).below hb (Nat.le_refl _))
  clear OBt_3
  have Ob_4 := hide hO
  clear hb hO
  clear HT4
  have OBb_5 := hide (show WhlO (w4.alloc (.cells #[.int .i64 pst, .int .i64 psa, .slice Ab nb cb] 26)) w4.heap.size 26 #[.int .i64 pst, .int .i64 psa, .slice Ab nb cb] from Whl.here w4 _ _)
  have HB5 := hide ((unhide HB4).alloc (unhide HB4).size (.cells #[.int .i64 pst, .int .i64 psa, .slice Ab nb cb] 26))
  have Ot_5 := hide ((unhide Ot_4).alloc (.cells #[.int .i64 pst, .int .i64 psa, .slice Ab nb cb] 26))
  clear Ot_4
  have OBt_5 := hide ((unhide OBt_4).alloc (.cells #[.int .i64 pst, .int .i64 psa, .slice Ab nb cb] 26))
  clear OBt_4
  have Ob_5 := hide ((unhide Ob_4).alloc (.cells #[.int .i64 pst, .int .i64 psa, .slice Ab nb cb] 26))
  clear Ob_4
  have kt0 : (w4.alloc (.cells #[.int .i64 pst, .int .i64 psa, .slice Ab nb cb] 26)).cell? ⟨gt, 0, none⟩ = some (.int .i64 stt) := (unhide OBt_5).cell 0
  have kt1 : (w4.alloc (.cells #[.int .i64 pst, .int .i64 psa, .slice Ab nb cb] 26)).cell? ⟨gt, 1, none⟩ = some (.int .i64 sat) := (unhide OBt_5).cell 1
  have kt2 : (w4.alloc (.cells #[.int .i64 pst, .int .i64 psa, .slice Ab nb cb] 26)).cell? ⟨gt, 2, none⟩ = some (.slice At nt ct) := (unhide OBt_5).cell 2
  go_wp2_with fail
  generalize w4.heap.size = gb at *
  generalize w4.alloc (.cells #[.int .i64 pst, .int .i64 psa, .slice Ab nb cb] 26) = w5 at *
  have HT6 := hide (specTraceText_any stt sat At nt ct tt w5 (unhide Ot_5).ri (by omega))
  rw [htx] at HT6
  refine (unhide HT6).mono ?_
  rintro e w6 ⟨rfl, hb⟩
  have HB6 := hide (below_next (unhide HB5) hb)
  have Ot_6 := hide ((unhide Ot_5).below hb (Nat.le_refl _))
  clear Ot_5
  have OBt_6 := hide ((unhide OBt_5).below hb (Nat.le_refl _))
  clear OBt_5
  have Ob_6 := hide ((unhide Ob_5).below hb (Nat.le_refl _))
  clear Ob_5
  have OBb_6 := hide ((unhide OBb_5).below hb (Nat.le_refl _))
  clear OBb_5
  clear hb 
  clear HT6
  clear kt0 kt1 kt2
  have e1 := bool_same ok
  have e2 := str_same tx
  have kt0 : w6.cell? ⟨gt, 0, none⟩ = some (.int .i64 stt) := (unhide OBt_6).cell 0
  have kt1 : w6.cell? ⟨gt, 1, none⟩ = some (.int .i64 sat) := (unhide OBt_6).cell 1
  have kt2 : w6.cell? ⟨gt, 2, none⟩ = some (.slice At nt ct) := (unhide OBt_6).cell 2
  have kb0 : w6.cell? ⟨gb, 0, none⟩ = some (.int .i64 pst) := (unhide OBb_6).cell 0
  have kb1 : w6.cell? ⟨gb, 1, none⟩ = some (.int .i64 psa) := (unhide OBb_6).cell 1
  have kb2 : w6.cell? ⟨gb, 2, none⟩ = some (.slice Ab nb cb) := (unhide OBb_6).cell 2
  go_upto_region 7 with (fail)
  go_cut [83] (fun v wx => v = .bool false ∧ Hid (Below w.heap.size w wx) ∧ Hid (WhlO wx gt 26 #[.int .i64 stt, .int .i64 sat, .slice At nt ct]) ∧ Hid (OwnI wx w.heap.size At nt ct tt))
  case first =>
    as_aux_lemma =>
      go_wp2_with fail
      have HT7 := hide (implIsTrace_any stt sat At nt ct tt w6 (unhide Ot_6).ri (by omega))
      rw [hgd] at HT7
      refine (unhide HT7).mono ?_
      rintro e w7 ⟨rfl, hb⟩
      have HB7 := hide (below_next (unhide HB6) hb)
      have Ot_7 := hide ((unhide Ot_6).below hb (Nat.le_refl _))
      clear Ot_6
      have OBt_7 := hide ((unhide OBt_6).below hb (Nat.le_refl _))
      clear OBt_6
      have Ob_7 := hide ((unhide Ob_6).below hb (Nat.le_refl _))
      clear Ob_6
      have OBb_7 := hide ((unhide OBb_6).below hb (Nat.le_refl _))
      clear OBb_6
      clear hb 
      clear HT7
      clear kt0 kt1 kt2 kb0 kb1 kb2
      rcases ok with _ | _
      · skip
        go_wp2_with fail
        go_meet
        exact ⟨rfl, HB7, OBt_7, Ot_7⟩
      · skip
        have h9 := (trx_yes htx).2
        rw [hpr] at h9
        injection h9 with e4 e5
        injection e5 with e5 e6
        injection e6 with e6 e7
        have e4 := e4.symm
        have e5 := e5.symm
        have e6 := e6.symm
        subst e4 e5 e6 e7
        have kt0 : w7.cell? ⟨gt, 0, none⟩ = some (.int .i64 stt) := (unhide OBt_7).cell 0
        have kt1 : w7.cell? ⟨gt, 1, none⟩ = some (.int .i64 sat) := (unhide OBt_7).cell 1
        have kt2 : w7.cell? ⟨gt, 2, none⟩ = some (.slice At nt ct) := (unhide OBt_7).cell 2
        have kb0 : w7.cell? ⟨gb, 0, none⟩ = some (.int .i64 stt) := (unhide OBb_7).cell 0
        have kb1 : w7.cell? ⟨gb, 1, none⟩ = some (.int .i64 sat) := (unhide OBb_7).cell 1
        have kb2 : w7.cell? ⟨gb, 2, none⟩ = some (.slice Ab nb cb) := (unhide OBb_7).cell 2
        go_wp2_with fail
        have HT8 := hide (vTrace_same stt sat Ab At nb nt cb ct tt w7 (unhide Ob_7).ri (unhide Ot_7).ri (unhide Ob_7).max)
        refine (unhide HT8).mono ?_
        rintro e w8 ⟨rfl, hb⟩
        have HB8 := hide (below_next (unhide HB7) hb)
        have Ot_8 := hide ((unhide Ot_7).below hb (Nat.le_refl _))
        clear Ot_7
        have OBt_8 := hide ((unhide OBt_7).below hb (Nat.le_refl _))
        clear OBt_7
        have Ob_8 := hide ((unhide Ob_7).below hb (Nat.le_refl _))
        clear Ob_7
        have OBb_8 := hide ((unhide OBb_7).below hb (Nat.le_refl _))
        clear OBb_7
        clear hb 
        clear HT8
        clear kt0 kt1 kt2 kb0 kb1 kb2
        go_wp2_with fail
        go_meet
        exact ⟨rfl, HB8, OBt_8, Ot_8⟩
  case rest =>
    obtain ⟨rfl, HB9, OBt_9, Ot_9⟩ := hcut
    clear kt0 kt1 kt2 kb0 kb1 kb2
    clear Ob_6
    generalize wc = w9 at *
    have kt0 : w9.cell? ⟨gt, 0, none⟩ = some (.int .i64 stt) := (unhide OBt_9).cell 0
    have kt1 : w9.cell? ⟨gt, 1, none⟩ = some (.int .i64 sat) := (unhide OBt_9).cell 1
    have kt2 : w9.cell? ⟨gt, 2, none⟩ = some (.slice At nt ct) := (unhide OBt_9).cell 2
    go_upto_region 9 with (fail)
    go_cut [90] (fun v wx => wx = w9 ∧ (v = .bool false ∨ (v = .bool true ∧ Hid (ok = true ∧ 1 < nt))))
    case first =>
      as_aux_lemma =>
        rcases ok with _ | _
        · go_wp2_with fail
          go_meet
          exact ⟨rfl, .inl rfl⟩
        · by_cases hlx : 1 < nt
          · have l1 : (1 : Int) < (nt : Int) := by omega
            have l2 : decide ((1 : Int) < (nt : Int)) = true := decide_eq_true l1
            go_wp2_with fail
            go_meet
            exact ⟨rfl, .inr ⟨rfl, rfl, hlx⟩⟩
          · have l1 : ¬ (1 : Int) < (nt : Int) := by omega
            have l2 : decide ((1 : Int) < (nt : Int)) = false := decide_eq_false l1
            go_wp2_with fail
            go_meet
            exact ⟨rfl, .inl rfl⟩
    case rest =>
      obtain ⟨rfl, hcs⟩ := hcut
      generalize wc = w9 at *
      clear kt0 kt1 kt2
      go_upto_if 90 with (fail)
      go_cut [] (fun wx => Hid (Below w.heap.size w wx))
      case first =>
        as_aux_lemma =>
          rcases hcs with rfl | ⟨rfl, hcs⟩
          · skip
            go_wp2_with fail
            go_meet
            exact unhide HB9
          · skip
            obtain ⟨hok, hlx⟩ := unhide hcs
            clear hcs
            subst hok
            have hlt := (unhide Ot_9).len
            obtain ⟨M, hM⟩ : ∃ M : Nat, M = nt / 2 := ⟨_, rfl⟩
            obtain ⟨c1, c2, c3⟩ := cut_halves hgd hlt hlx hM
            obtain ⟨g1, g2, g3, g4⟩ := goodB_parts hgd
            have g5 := smpB_len g3
            have hcap := (unhide Ot_9).cap
            have q1 : (nt : Int).tdiv 2 = (M : Int) := by rw [Int.tdiv_eq_ediv_of_nonneg (by omega)]; omega
            have q1b : (nt : Int) / 2 = (M : Int) := by omega
            have q2 : IntKind.i64.wrap (M : Int) = (M : Int) := IntWalk.i64_in _ (by omega)
            have q3 : IntKind.i64.wrap (sat + (M : Int)) = sat + (M : Int) := IntWalk.i64_in _ (by omega)
            have q4 : IntKind.i64.wrap (sat + (M : Int) - 1) = sat + (M : Int) - 1 := IntWalk.i64_in _ (by omega)
            have q5 : IntKind.i64.wrap (sat + (nt : Int)) = sat + (nt : Int) := IntWalk.i64_in _ (by omega)
            have q6 : IntKind.i64.wrap (sat + (nt : Int) - 1) = sat + (nt : Int) - 1 := IntWalk.i64_in _ (by omega)
            have hM2 : M ≤ 12 := by omega
            have HLTT := hide hlt
            clear hM hlt g1 g2 g3 g4 g5
            have kt0 : w9.cell? ⟨gt, 0, none⟩ = some (.int .i64 stt) := (unhide OBt_9).cell 0
            have kt1 : w9.cell? ⟨gt, 1, none⟩ = some (.int .i64 sat) := (unhide OBt_9).cell 1
            have kt2 : w9.cell? ⟨gt, 2, none⟩ = some (.slice At nt ct) := (unhide OBt_9).cell 2
            go_wp2_with fail
            have HT10 := hide (implCut_any stt sat At nt ct tt sat (sat + (M : Int) - 1) w9 (unhide Ot_9).ri (by omega) hcap)
            rw [c1] at HT10
            refine (unhide HT10).mono ?_
            rintro e w10 ⟨Ap, np, cp, rfl, hO, hb⟩
            have HB10 := hide (below_next (unhide HB9) hb)
            have Ot_10 := hide ((unhide Ot_9).below hb (Nat.le_refl _))
            clear Ot_9
            have OBt_10 := hide ((unhide OBt_9).below hb (Nat.le_refl _))
            clear OBt_9
            have Op_10 := hide hO
            clear hb hO
            clear HT10
            clear kt0 kt1 kt2
            have l1len : (tt.take M).length ≤ 24 := by rw [List.length_take]; omega
            generalize tt.take M = l1 at *
            have OBp_11 := hide (show WhlO (w10.alloc (.cells #[.int .i64 stt, .int .i64 sat, .slice Ap np cp] 26)) w10.heap.size 26 #[.int .i64 stt, .int .i64 sat, .slice Ap np cp] from Whl.here w10 _ _)
            have HB11 := hide ((unhide HB10).alloc (unhide HB10).size (.cells #[.int .i64 stt, .int .i64 sat, .slice Ap np cp] 26))
            have Ot_11 := hide ((unhide Ot_10).alloc (.cells #[.int .i64 stt, .int .i64 sat, .slice Ap np cp] 26))
            clear Ot_10
            have OBt_11 := hide ((unhide OBt_10).alloc (.cells #[.int .i64 stt, .int .i64 sat, .slice Ap np cp] 26))
            clear OBt_10
            have Op_11 := hide ((unhide Op_10).alloc (.cells #[.int .i64 stt, .int .i64 sat, .slice Ap np cp] 26))
            clear Op_10
            have kt0 : (w10.alloc (.cells #[.int .i64 stt, .int .i64 sat, .slice Ap np cp] 26)).cell? ⟨gt, 0, none⟩ = some (.int .i64 stt) := (unhide OBt_11).cell 0
            have kt1 : (w10.alloc (.cells #[.int .i64 stt, .int .i64 sat, .slice Ap np cp] 26)).cell? ⟨gt, 1, none⟩ = some (.int .i64 sat) := (unhide OBt_11).cell 1
            have kt2 : (w10.alloc (.cells #[.int .i64 stt, .int .i64 sat, .slice Ap np cp] 26)).cell? ⟨gt, 2, none⟩ = some (.slice At nt ct) := (unhide OBt_11).cell 2
            go_wp2_with fail
            generalize w10.heap.size = gp at *
            generalize w10.alloc (.cells #[.int .i64 stt, .int .i64 sat, .slice Ap np cp] 26) = w11 at *
            have HT12 := hide (implCut_any stt sat At nt ct tt (sat + (M : Int)) (sat + (nt : Int) - 1) w11 (unhide Ot_11).ri (by omega) hcap)
            rw [c2] at HT12
            refine (unhide HT12).mono ?_
            rintro e w12 ⟨Aq, nq, cq, rfl, hO, hb⟩
            have HB12 := hide (below_next (unhide HB11) hb)
            have Ot_12 := hide ((unhide Ot_11).below hb (Nat.le_refl _))
            clear Ot_11
            have OBt_12 := hide ((unhide OBt_11).below hb (Nat.le_refl _))
            clear OBt_11
            have Op_12 := hide ((unhide Op_11).below hb (Nat.le_refl _))
            clear Op_11
            have OBp_12 := hide ((unhide OBp_11).below hb (Nat.le_refl _))
            clear OBp_11
            have Oq_12 := hide hO
            clear hb hO
            clear HT12
            clear kt0 kt1 kt2
            have l2len : (tt.drop M).length ≤ 1048576 := by rw [List.length_drop, unhide HLTT]; omega
            generalize tt.drop M = l2 at *
            have OBq_13 := hide (show WhlO (w12.alloc (.cells #[.int .i64 stt, .int .i64 (sat + (M : Int)), .slice Aq nq cq] 26)) w12.heap.size 26 #[.int .i64 stt, .int .i64 (sat + (M : Int)), .slice Aq nq cq] from Whl.here w12 _ _)
            have HB13 := hide ((unhide HB12).alloc (unhide HB12).size (.cells #[.int .i64 stt, .int .i64 (sat + (M : Int)), .slice Aq nq cq] 26))
            have Ot_13 := hide ((unhide Ot_12).alloc (.cells #[.int .i64 stt, .int .i64 (sat + (M : Int)), .slice Aq nq cq] 26))
            clear Ot_12
            have OBt_13 := hide ((unhide OBt_12).alloc (.cells #[.int .i64 stt, .int .i64 (sat + (M : Int)), .slice Aq nq cq] 26))
            clear OBt_12
            have Op_13 := hide ((unhide Op_12).alloc (.cells #[.int .i64 stt, .int .i64 (sat + (M : Int)), .slice Aq nq cq] 26))
            clear Op_12
            have OBp_13 := hide ((unhide OBp_12).alloc (.cells #[.int .i64 stt, .int .i64 (sat + (M : Int)), .slice Aq nq cq] 26))
            clear OBp_12
            have Oq_13 := hide ((unhide Oq_12).alloc (.cells #[.int .i64 stt, .int .i64 (sat + (M : Int)), .slice Aq nq cq] 26))
            clear Oq_12
            have kp0 : (w12.alloc (.cells #[.int .i64 stt, .int .i64 (sat + (M : Int)), .slice Aq nq cq] 26)).cell? ⟨gp, 0, none⟩ = some (.int .i64 stt) := (unhide OBp_13).cell 0
            have kp1 : (w12.alloc (.cells #[.int .i64 stt, .int .i64 (sat + (M : Int)), .slice Aq nq cq] 26)).cell? ⟨gp, 1, none⟩ = some (.int .i64 sat) := (unhide OBp_13).cell 1
            have kp2 : (w12.alloc (.cells #[.int .i64 stt, .int .i64 (sat + (M : Int)), .slice Aq nq cq] 26)).cell? ⟨gp, 2, none⟩ = some (.slice Ap np cp) := (unhide OBp_13).cell 2
            have kq0 : (w12.alloc (.cells #[.int .i64 stt, .int .i64 (sat + (M : Int)), .slice Aq nq cq] 26)).cell? ⟨w12.heap.size, 0, none⟩ = some (.int .i64 stt) := (unhide OBq_13).cell 0
            have kq1 : (w12.alloc (.cells #[.int .i64 stt, .int .i64 (sat + (M : Int)), .slice Aq nq cq] 26)).cell? ⟨w12.heap.size, 1, none⟩ = some (.int .i64 (sat + (M : Int))) := (unhide OBq_13).cell 1
            have kq2 : (w12.alloc (.cells #[.int .i64 stt, .int .i64 (sat + (M : Int)), .slice Aq nq cq] 26)).cell? ⟨w12.heap.size, 2, none⟩ = some (.slice Aq nq cq) := (unhide OBq_13).cell 2
            go_wp2_with fail
            generalize w12.heap.size = gq at *
            generalize w12.alloc (.cells #[.int .i64 stt, .int .i64 (sat + (M : Int)), .slice Aq nq cq] 26) = w13 at *
            have hp1 : np ≤ 1048576 := by have h8 := (unhide Op_13).max; have h9 := (unhide Op_13).len; have h7 := l1len; omega
            have hq1 : nq ≤ 1048576 := by have h8 := (unhide Oq_13).max; have h9 := (unhide Oq_13).len; have h7 := l2len; omega
            have HT14 := hide (implJoin_any stt sat Ap np cp l1 stt (sat + (M : Int)) Aq nq cq l2 w13 (unhide Op_13).ri hp1 (unhide Oq_13).ri hq1)
            rw [c3] at HT14
            refine (unhide HT14).mono ?_
            rintro e w14 ⟨Av, nv, cv, rfl, hO, hb⟩
            have HB14 := hide (below_next (unhide HB13) hb)
            have Ot_14 := hide ((unhide Ot_13).below hb (Nat.le_refl _))
            clear Ot_13
            have OBt_14 := hide ((unhide OBt_13).below hb (Nat.le_refl _))
            clear OBt_13
            have Op_14 := hide ((unhide Op_13).below hb (Nat.le_refl _))
            clear Op_13
            have OBp_14 := hide ((unhide OBp_13).below hb (Nat.le_refl _))
            clear OBp_13
            have Oq_14 := hide ((unhide Oq_13).below hb (Nat.le_refl _))
            clear Oq_13
            have OBq_14 := hide ((unhide OBq_13).below hb (Nat.le_refl _))
            clear OBq_13
            have Ov_14 := hide hO
            clear hb hO
            clear HT14
            clear kp0 kp1 kp2 kq0 kq1 kq2
            have OBv_15 := hide (show WhlO (w14.alloc (.cells #[.int .i64 stt, .int .i64 sat, .slice Av nv cv] 26)) w14.heap.size 26 #[.int .i64 stt, .int .i64 sat, .slice Av nv cv] from Whl.here w14 _ _)
            have HB15 := hide ((unhide HB14).alloc (unhide HB14).size (.cells #[.int .i64 stt, .int .i64 sat, .slice Av nv cv] 26))
            have Ot_15 := hide ((unhide Ot_14).alloc (.cells #[.int .i64 stt, .int .i64 sat, .slice Av nv cv] 26))
            clear Ot_14
            have OBt_15 := hide ((unhide OBt_14).alloc (.cells #[.int .i64 stt, .int .i64 sat, .slice Av nv cv] 26))
            clear OBt_14
            have Op_15 := hide ((unhide Op_14).alloc (.cells #[.int .i64 stt, .int .i64 sat, .slice Av nv cv] 26))
            clear Op_14
            have OBp_15 := hide ((unhide OBp_14).alloc (.cells #[.int .i64 stt, .int .i64 sat, .slice Av nv cv] 26))
            clear OBp_14
            have Oq_15 := hide ((unhide Oq_14).alloc (.cells #[.int .i64 stt, .int .i64 sat, .slice Av nv cv] 26))
            clear Oq_14
            have OBq_15 := hide ((unhide OBq_14).alloc (.cells #[.int .i64 stt, .int .i64 sat, .slice Av nv cv] 26))
            clear OBq_14
            have Ov_15 := hide ((unhide Ov_14).alloc (.cells #[.int .i64 stt, .int .i64 sat, .slice Av nv cv] 26))
            clear Ov_14
            have kv0 : (w14.alloc (.cells #[.int .i64 stt, .int .i64 sat, .slice Av nv cv] 26)).cell? ⟨w14.heap.size, 0, none⟩ = some (.int .i64 stt) := (unhide OBv_15).cell 0
            have kv1 : (w14.alloc (.cells #[.int .i64 stt, .int .i64 sat, .slice Av nv cv] 26)).cell? ⟨w14.heap.size, 1, none⟩ = some (.int .i64 sat) := (unhide OBv_15).cell 1
            have kv2 : (w14.alloc (.cells #[.int .i64 stt, .int .i64 sat, .slice Av nv cv] 26)).cell? ⟨w14.heap.size, 2, none⟩ = some (.slice Av nv cv) := (unhide OBv_15).cell 2
            have kt0 : (w14.alloc (.cells #[.int .i64 stt, .int .i64 sat, .slice Av nv cv] 26)).cell? ⟨gt, 0, none⟩ = some (.int .i64 stt) := (unhide OBt_15).cell 0
            have kt1 : (w14.alloc (.cells #[.int .i64 stt, .int .i64 sat, .slice Av nv cv] 26)).cell? ⟨gt, 1, none⟩ = some (.int .i64 sat) := (unhide OBt_15).cell 1
            have kt2 : (w14.alloc (.cells #[.int .i64 stt, .int .i64 sat, .slice Av nv cv] 26)).cell? ⟨gt, 2, none⟩ = some (.slice At nt ct) := (unhide OBt_15).cell 2
            go_wp2_with fail
            generalize w14.heap.size = gv at *
            generalize w14.alloc (.cells #[.int .i64 stt, .int .i64 sat, .slice Av nv cv] 26) = w15 at *
            have HT16 := hide (vTrace_same stt sat Av At nv nt cv ct tt w15 (unhide Ov_15).ri (unhide Ot_15).ri (unhide Ov_15).max)
            refine (unhide HT16).mono ?_
            rintro e w16 ⟨rfl, hb⟩
            have HB16 := hide (below_next (unhide HB15) hb)
            have Ot_16 := hide ((unhide Ot_15).below hb (Nat.le_refl _))
            clear Ot_15
            have OBt_16 := hide ((unhide OBt_15).below hb (Nat.le_refl _))
            clear OBt_15
            have Op_16 := hide ((unhide Op_15).below hb (Nat.le_refl _))
            clear Op_15
            have OBp_16 := hide ((unhide OBp_15).below hb (Nat.le_refl _))
            clear OBp_15
            have Oq_16 := hide ((unhide Oq_15).below hb (Nat.le_refl _))
            clear Oq_15
            have OBq_16 := hide ((unhide OBq_15).below hb (Nat.le_refl _))
            clear OBq_15
            have Ov_16 := hide ((unhide Ov_15).below hb (Nat.le_refl _))
            clear Ov_15
            have OBv_16 := hide ((unhide OBv_15).below hb (Nat.le_refl _))
            clear OBv_15
            clear hb 
            clear HT16
            clear kv0 kv1 kv2 kt0 kt1 kt2
            go_wp2_with fail
            go_meet
            exact unhide HB16
      case rest =>
        clear Ot_9 OBt_9
        generalize wc = w30 at *
        have HB30 := hide hcut
        clear hcut
        go_wp2_with fail
        refine (drawParseTrace_any A n c xs _ (unhide HR _ (unhide HB30)) hn).mono ?_
        rintro e w31 ⟨sx, rfl, hsx, hb⟩
        have HB31 := hide (below_next (unhide HB30) hb)
        clear hb 
        go_wp2_with fail
        obtain ⟨stx, sax, tx2, okx, hpx⟩ : ∃ p q r s, prR sx = (p, q, r, s) := ⟨_, _, _, _, rfl⟩
        have HXL : Hid (tx2.length ≤ 24) := by have h9 := prR_len sx; rw [hpx] at h9; exact h9
        have HT32 := hide (implParse_any sx w31 (by omega) (unhide HV _ (unhide HB31)))
        rw [hpx] at HT32
        refine (unhide HT32).mono ?_
        rintro e w32 ⟨Ax, nx, cx, rfl, hO, hb⟩
        have HB32 := hide (below_next (unhide HB31) hb)
        have Ox_32 := hide hO
        clear hb hO
        clear HT32
        have OBx_33 := hide (show WhlO (w32.alloc (.cells #[.int .i64 stx, .int .i64 sax, .slice Ax nx cx] 26)) w32.heap.size 26 #[.int .i64 stx, .int .i64 sax, .slice Ax nx cx] from Whl.here w32 _ _)
        have HB33 := hide ((unhide HB32).alloc (unhide HB32).size (.cells #[.int .i64 stx, .int .i64 sax, .slice Ax nx cx] 26))
        have Ox_33 := hide ((unhide Ox_32).alloc (.cells #[.int .i64 stx, .int .i64 sax, .slice Ax nx cx] 26))
        clear Ox_32
        have kx0 : (w32.alloc (.cells #[.int .i64 stx, .int .i64 sax, .slice Ax nx cx] 26)).cell? ⟨w32.heap.size, 0, none⟩ = some (.int .i64 stx) := (unhide OBx_33).cell 0
        have kx1 : (w32.alloc (.cells #[.int .i64 stx, .int .i64 sax, .slice Ax nx cx] 26)).cell? ⟨w32.heap.size, 1, none⟩ = some (.int .i64 sax) := (unhide OBx_33).cell 1
        have kx2 : (w32.alloc (.cells #[.int .i64 stx, .int .i64 sax, .slice Ax nx cx] 26)).cell? ⟨w32.heap.size, 2, none⟩ = some (.slice Ax nx cx) := (unhide OBx_33).cell 2
        go_wp2_with fail
        generalize w32.heap.size = gx at *
        generalize w32.alloc (.cells #[.int .i64 stx, .int .i64 sax, .slice Ax nx cx] 26) = w33 at *
        obtain ⟨ag, one, hag⟩ : ∃ p q, trxR stx sax tx2 = (p, q) := ⟨_, _, rfl⟩
        have HT34 := hide (implTraceText_any stx sax Ax nx cx tx2 w33 (unhide Ox_33).ri (by have h9 := (unhide Ox_33).len; have h8 := unhide HXL; omega) (unhide HV _ (unhide HB33)).tab)
        rw [hag] at HT34
        refine (unhide HT34).mono ?_
        rintro e w34 ⟨rfl, hb⟩
        have HB34 := hide (below_next (unhide HB33) hb)
        have Ox_34 := hide ((unhide Ox_33).below hb (Nat.le_refl _))
        clear Ox_33
        have OBx_34 := hide ((unhide OBx_33).below hb (Nat.le_refl _))
        clear OBx_33
        clear hb 
        clear HT34
        clear kx0 kx1 kx2
        go_wp2_with fail
        have HT35 := hide (specParse_any sx w34 (by omega))
        rw [hpx] at HT35
        refine (unhide HT35).mono ?_
        rintro e w35 ⟨Ay, ny, cy, rfl, hO, hb⟩
        have HB35 := hide (below_next (unhide HB34) hb)
        have Ox_35 := hide ((unhide Ox_34).below hb (Nat.le_refl _))
        clear Ox_34
        have OBx_35 := hide ((unhide OBx_34).below hb (Nat.le_refl _))
        clear OBx_34
        have Oy_35 := hide hO
        clear hb hO
        clear HT35
        have e8 := bool_same okx
        have OBy_36 := hide (show WhlO (w35.alloc (.cells #[.int .i64 stx, .int .i64 sax, .slice Ay ny cy] 26)) w35.heap.size 26 #[.int .i64 stx, .int .i64 sax, .slice Ay ny cy] from Whl.here w35 _ _)
        have HB36 := hide ((unhide HB35).alloc (unhide HB35).size (.cells #[.int .i64 stx, .int .i64 sax, .slice Ay ny cy] 26))
        have Ox_36 := hide ((unhide Ox_35).alloc (.cells #[.int .i64 stx, .int .i64 sax, .slice Ay ny cy] 26))
        clear Ox_35
        have OBx_36 := hide ((unhide OBx_35).alloc (.cells #[.int .i64 stx, .int .i64 sax, .slice Ay ny cy] 26))
        clear OBx_35
        have Oy_36 := hide ((unhide Oy_35).alloc (.cells #[.int .i64 stx, .int .i64 sax, .slice Ay ny cy] 26))
        clear Oy_35
        go_upto_region 21 with (fail)
        generalize w35.heap.size = gy at *
        generalize w35.alloc (.cells #[.int .i64 stx, .int .i64 sax, .slice Ay ny cy] 26) = w36 at *
        have kx0 : w36.cell? ⟨gx, 0, none⟩ = some (.int .i64 stx) := (unhide OBx_36).cell 0
        have kx1 : w36.cell? ⟨gx, 1, none⟩ = some (.int .i64 sax) := (unhide OBx_36).cell 1
        have kx2 : w36.cell? ⟨gx, 2, none⟩ = some (.slice Ax nx cx) := (unhide OBx_36).cell 2
        have ky0 : w36.cell? ⟨gy, 0, none⟩ = some (.int .i64 stx) := (unhide OBy_36).cell 0
        have ky1 : w36.cell? ⟨gy, 1, none⟩ = some (.int .i64 sax) := (unhide OBy_36).cell 1
        have ky2 : w36.cell? ⟨gy, 2, none⟩ = some (.slice Ay ny cy) := (unhide OBy_36).cell 2
        go_cut [180] (fun v wx => v = .bool false ∧ Hid (Below w.heap.size w wx))
        case first =>
          as_aux_lemma =>
            go_wp2_with fail
            have HT37 := hide (vTrace_same stx sax Ax Ay nx ny cx cy tx2 w36 (unhide Ox_36).ri (unhide Oy_36).ri (unhide Ox_36).max)
            refine (unhide HT37).mono ?_
            rintro e w37 ⟨rfl, hb⟩
            have HB37 := hide (below_next (unhide HB36) hb)
            have Ox_37 := hide ((unhide Ox_36).below hb (Nat.le_refl _))
            clear Ox_36
            have OBx_37 := hide ((unhide OBx_36).below hb (Nat.le_refl _))
            clear OBx_36
            have Oy_37 := hide ((unhide Oy_36).below hb (Nat.le_refl _))
            clear Oy_36
            have OBy_37 := hide ((unhide OBy_36).below hb (Nat.le_refl _))
            clear OBy_36
            clear hb 
            clear HT37
            clear kx0 kx1 kx2 ky0 ky1 ky2
            rcases okx with _ | _
            · skip
              go_wp2_with fail
              go_meet
              exact ⟨rfl, HB37⟩
            · skip
              have h9 := prR_yes hpx
              rw [hag] at h9
              injection h9 with e4 e5
              subst e4 e5
              have e9 := str_same ag
              go_wp2_with fail
              go_meet
              exact ⟨rfl, HB37⟩
        case rest =>
          obtain ⟨rfl, hcut⟩ := hcut
          clear kx0 kx1 kx2 ky0 ky1 ky2 Ox_36 OBx_36 Oy_36 OBy_36
          generalize wc = w40 at *
          have HB40 := hide hcut
          clear hcut
          go_wp2_with fail
          refine (drawCutTrace_any A n c xs _ (unhide HR _ (unhide HB40)) hn).mono ?_
          rintro e w41 ⟨stu, sau, Au, nu, cu, tu, fr, tq, rfl, hO, hnu, hysu, hb⟩
          have HB41 := hide (below_next (unhide HB40) hb)
          have Ou_41 := hide hO
          clear hb hO
          clear hysu
          have OBu_42 := hide (show WhlO (w41.alloc (.cells #[.int .i64 stu, .int .i64 sau, .slice Au nu cu] 26)) w41.heap.size 26 #[.int .i64 stu, .int .i64 sau, .slice Au nu cu] from Whl.here w41 _ _)
          have HB42 := hide ((unhide HB41).alloc (unhide HB41).size (.cells #[.int .i64 stu, .int .i64 sau, .slice Au nu cu] 26))
          have Ou_42 := hide ((unhide Ou_41).alloc (.cells #[.int .i64 stu, .int .i64 sau, .slice Au nu cu] 26))
          clear Ou_41
          have ku0 : (w41.alloc (.cells #[.int .i64 stu, .int .i64 sau, .slice Au nu cu] 26)).cell? ⟨w41.heap.size, 0, none⟩ = some (.int .i64 stu) := (unhide OBu_42).cell 0
          have ku1 : (w41.alloc (.cells #[.int .i64 stu, .int .i64 sau, .slice Au nu cu] 26)).cell? ⟨w41.heap.size, 1, none⟩ = some (.int .i64 sau) := (unhide OBu_42).cell 1
          have ku2 : (w41.alloc (.cells #[.int .i64 stu, .int .i64 sau, .slice Au nu cu] 26)).cell? ⟨w41.heap.size, 2, none⟩ = some (.slice Au nu cu) := (unhide OBu_42).cell 2
          go_wp2_with fail
          generalize w41.heap.size = gu at *
          generalize w41.alloc (.cells #[.int .i64 stu, .int .i64 sau, .slice Au nu cu] 26) = w42 at *
          obtain ⟨cst, csa, cys, cok, hcu⟩ : ∃ p q r s, cutR stu sau tu fr tq = (p, q, r, s) := ⟨_, _, _, _, rfl⟩
          have hcapu := (unhide Ou_42).cap
          have HT43 := hide (implCut_any stu sau Au nu cu tu fr tq w42 (unhide Ou_42).ri (by omega) hcapu)
          rw [hcu] at HT43
          refine (unhide HT43).mono ?_
          rintro e w43 ⟨Ai, ni, ci, rfl, hO, hb⟩
          have HB43 := hide (below_next (unhide HB42) hb)
          have Ou_43 := hide ((unhide Ou_42).below hb (Nat.le_refl _))
          clear Ou_42
          have OBu_43 := hide ((unhide OBu_42).below hb (Nat.le_refl _))
          clear OBu_42
          have Oi_43 := hide hO
          clear hb hO
          clear HT43
          clear ku0 ku1 ku2
          have OBi_44 := hide (show WhlO (w43.alloc (.cells #[.int .i64 cst, .int .i64 csa, .slice Ai ni ci] 26)) w43.heap.size 26 #[.int .i64 cst, .int .i64 csa, .slice Ai ni ci] from Whl.here w43 _ _)
          have HB44 := hide ((unhide HB43).alloc (unhide HB43).size (.cells #[.int .i64 cst, .int .i64 csa, .slice Ai ni ci] 26))
          have Ou_44 := hide ((unhide Ou_43).alloc (.cells #[.int .i64 cst, .int .i64 csa, .slice Ai ni ci] 26))
          clear Ou_43
          have OBu_44 := hide ((unhide OBu_43).alloc (.cells #[.int .i64 cst, .int .i64 csa, .slice Ai ni ci] 26))
          clear OBu_43
          have Oi_44 := hide ((unhide Oi_43).alloc (.cells #[.int .i64 cst, .int .i64 csa, .slice Ai ni ci] 26))
          clear Oi_43
          have ku0 : (w43.alloc (.cells #[.int .i64 cst, .int .i64 csa, .slice Ai ni ci] 26)).cell? ⟨gu, 0, none⟩ = some (.int .i64 stu) := (unhide OBu_44).cell 0
          have ku1 : (w43.alloc (.cells #[.int .i64 cst, .int .i64 csa, .slice Ai ni ci] 26)).cell? ⟨gu, 1, none⟩ = some (.int .i64 sau) := (unhide OBu_44).cell 1
          have ku2 : (w43.alloc (.cells #[.int .i64 cst, .int .i64 csa, .slice Ai ni ci] 26)).cell? ⟨gu, 2, none⟩ = some (.slice Au nu cu) := (unhide OBu_44).cell 2
          go_wp2_with fail
          generalize w43.heap.size = gi at *
          generalize w43.alloc (.cells #[.int .i64 cst, .int .i64 csa, .slice Ai ni ci] 26) = w44 at *
          have HT45 := hide (specCut_any stu sau Au nu cu tu fr tq w44 (unhide Ou_44).ri (by omega) hcapu)
          rw [hcu] at HT45
          refine (unhide HT45).mono ?_
          rintro e w45 ⟨Az, nz, cz, rfl, hO, hb⟩
          have HB45 := hide (below_next (unhide HB44) hb)
          have Ou_45 := hide ((unhide Ou_44).below hb (Nat.le_refl _))
          clear Ou_44
          have OBu_45 := hide ((unhide OBu_44).below hb (Nat.le_refl _))
          clear OBu_44
          have Oi_45 := hide ((unhide Oi_44).below hb (Nat.le_refl _))
          clear Oi_44
          have OBi_45 := hide ((unhide OBi_44).below hb (Nat.le_refl _))
          clear OBi_44
          have Oz_45 := hide hO
          clear hb hO
          clear HT45
          clear ku0 ku1 ku2
          have e10 := bool_same cok
          have OBz_46 := hide (show WhlO (w45.alloc (.cells #[.int .i64 cst, .int .i64 csa, .slice Az nz cz] 26)) w45.heap.size 26 #[.int .i64 cst, .int .i64 csa, .slice Az nz cz] from Whl.here w45 _ _)
          have HB46 := hide ((unhide HB45).alloc (unhide HB45).size (.cells #[.int .i64 cst, .int .i64 csa, .slice Az nz cz] 26))
          have Ou_46 := hide ((unhide Ou_45).alloc (.cells #[.int .i64 cst, .int .i64 csa, .slice Az nz cz] 26))
          clear Ou_45
          have OBu_46 := hide ((unhide OBu_45).alloc (.cells #[.int .i64 cst, .int .i64 csa, .slice Az nz cz] 26))
          clear OBu_45
          have Oi_46 := hide ((unhide Oi_45).alloc (.cells #[.int .i64 cst, .int .i64 csa, .slice Az nz cz] 26))
          clear Oi_45
          have OBi_46 := hide ((unhide OBi_45).alloc (.cells #[.int .i64 cst, .int .i64 csa, .slice Az nz cz] 26))
          clear OBi_45
          have Oz_46 := hide ((unhide Oz_45).alloc (.cells #[.int .i64 cst, .int .i64 csa, .slice Az nz cz] 26))
          clear Oz_45
          have ki0 : (w45.alloc (.cells #[.int .i64 cst, .int .i64 csa, .slice Az nz cz] 26)).cell? ⟨gi, 0, none⟩ = some (.int .i64 cst) := (unhide OBi_46).cell 0
          have ki1 : (w45.alloc (.cells #[.int .i64 cst, .int .i64 csa, .slice Az nz cz] 26)).cell? ⟨gi, 1, none⟩ = some (.int .i64 csa) := (unhide OBi_46).cell 1
          have ki2 : (w45.alloc (.cells #[.int .i64 cst, .int .i64 csa, .slice Az nz cz] 26)).cell? ⟨gi, 2, none⟩ = some (.slice Ai ni ci) := (unhide OBi_46).cell 2
          have kz0 : (w45.alloc (.cells #[.int .i64 cst, .int .i64 csa, .slice Az nz cz] 26)).cell? ⟨w45.heap.size, 0, none⟩ = some (.int .i64 cst) := (unhide OBz_46).cell 0
          have kz1 : (w45.alloc (.cells #[.int .i64 cst, .int .i64 csa, .slice Az nz cz] 26)).cell? ⟨w45.heap.size, 1, none⟩ = some (.int .i64 csa) := (unhide OBz_46).cell 1
          have kz2 : (w45.alloc (.cells #[.int .i64 cst, .int .i64 csa, .slice Az nz cz] 26)).cell? ⟨w45.heap.size, 2, none⟩ = some (.slice Az nz cz) := (unhide OBz_46).cell 2
          go_wp2_with fail
          generalize w45.heap.size = gz at *
          generalize w45.alloc (.cells #[.int .i64 cst, .int .i64 csa, .slice Az nz cz] 26) = w46 at *
          have HT47 := hide (vTrace_same cst csa Ai Az ni nz ci cz cys w46 (unhide Oi_46).ri (unhide Oz_46).ri (unhide Oi_46).max)
          refine (unhide HT47).mono ?_
          rintro e w47 ⟨rfl, hb⟩
          have HB47 := hide (below_next (unhide HB46) hb)
          have Ou_47 := hide ((unhide Ou_46).below hb (Nat.le_refl _))
          clear Ou_46
          have OBu_47 := hide ((unhide OBu_46).below hb (Nat.le_refl _))
          clear OBu_46
          have Oi_47 := hide ((unhide Oi_46).below hb (Nat.le_refl _))
          clear Oi_46
          have OBi_47 := hide ((unhide OBi_46).below hb (Nat.le_refl _))
          clear OBi_46
          have Oz_47 := hide ((unhide Oz_46).below hb (Nat.le_refl _))
          clear Oz_46
          have OBz_47 := hide ((unhide OBz_46).below hb (Nat.le_refl _))
          clear OBz_46
          clear hb 
          clear HT47
          clear ki0 ki1 ki2 kz0 kz1 kz2
          clear Oi_47
          clear Oz_47
          clear OBi_47
          clear OBz_47
          clear Ou_47
          clear OBu_47
          go_wp2_with fail
          refine (drawJoinTraces_any A n c xs _ (unhide HR _ (unhide HB47)) hn).mono ?_
          rintro e w48 ⟨std, sad, Ad, nd, cd, td, ste, sae, Ae, ne, ce, te, rfl, hO, hO2, hnd, hne, hb⟩
          have HB48 := hide (below_next (unhide HB47) hb)
          have Od_48 := hide hO
          have Oe_48 := hide hO2
          clear hb hO hO2
          have hzz : (w48.alloc (.cells #[.int .i64 std, .int .i64 sad, .slice Ad nd cd] 26)).heap.size = w48.heap.size + 1 := by simp
          have OBd_49 := hide (show WhlO (w48.alloc (.cells #[.int .i64 std, .int .i64 sad, .slice Ad nd cd] 26)) w48.heap.size 26 #[.int .i64 std, .int .i64 sad, .slice Ad nd cd] from Whl.here w48 _ _)
          have HB49 := hide ((unhide HB48).alloc (unhide HB48).size (.cells #[.int .i64 std, .int .i64 sad, .slice Ad nd cd] 26))
          have Od_49 := hide ((unhide Od_48).alloc (.cells #[.int .i64 std, .int .i64 sad, .slice Ad nd cd] 26))
          clear Od_48
          have Oe_49 := hide ((unhide Oe_48).alloc (.cells #[.int .i64 std, .int .i64 sad, .slice Ad nd cd] 26))
          clear Oe_48
          have OBe_50 := hide (show WhlO ((w48.alloc (.cells #[.int .i64 std, .int .i64 sad, .slice Ad nd cd] 26)).alloc (.cells #[.int .i64 ste, .int .i64 sae, .slice Ae ne ce] 26)) (w48.heap.size + 1) 26 #[.int .i64 ste, .int .i64 sae, .slice Ae ne ce] from Whl.here' (w48.alloc (.cells #[.int .i64 std, .int .i64 sad, .slice Ad nd cd] 26)) _ _ hzz.symm)
          have HB50 := hide ((unhide HB49).alloc (unhide HB49).size (.cells #[.int .i64 ste, .int .i64 sae, .slice Ae ne ce] 26))
          have Od_50 := hide ((unhide Od_49).alloc (.cells #[.int .i64 ste, .int .i64 sae, .slice Ae ne ce] 26))
          clear Od_49
          have Oe_50 := hide ((unhide Oe_49).alloc (.cells #[.int .i64 ste, .int .i64 sae, .slice Ae ne ce] 26))
          clear Oe_49
          have OBd_50 := hide ((unhide OBd_49).alloc (.cells #[.int .i64 ste, .int .i64 sae, .slice Ae ne ce] 26))
          clear OBd_49
          clear hzz
          have kd0 : ((w48.alloc (.cells #[.int .i64 std, .int .i64 sad, .slice Ad nd cd] 26)).alloc (.cells #[.int .i64 ste, .int .i64 sae, .slice Ae ne ce] 26)).cell? ⟨w48.heap.size, 0, none⟩ = some (.int .i64 std) := (unhide OBd_50).cell 0
          have kd1 : ((w48.alloc (.cells #[.int .i64 std, .int .i64 sad, .slice Ad nd cd] 26)).alloc (.cells #[.int .i64 ste, .int .i64 sae, .slice Ae ne ce] 26)).cell? ⟨w48.heap.size, 1, none⟩ = some (.int .i64 sad) := (unhide OBd_50).cell 1
          have kd2 : ((w48.alloc (.cells #[.int .i64 std, .int .i64 sad, .slice Ad nd cd] 26)).alloc (.cells #[.int .i64 ste, .int .i64 sae, .slice Ae ne ce] 26)).cell? ⟨w48.heap.size, 2, none⟩ = some (.slice Ad nd cd) := (unhide OBd_50).cell 2
          have ke0 : ((w48.alloc (.cells #[.int .i64 std, .int .i64 sad, .slice Ad nd cd] 26)).alloc (.cells #[.int .i64 ste, .int .i64 sae, .slice Ae ne ce] 26)).cell? ⟨w48.heap.size + 1, 0, none⟩ = some (.int .i64 ste) := (unhide OBe_50).cell 0
          have ke1 : ((w48.alloc (.cells #[.int .i64 std, .int .i64 sad, .slice Ad nd cd] 26)).alloc (.cells #[.int .i64 ste, .int .i64 sae, .slice Ae ne ce] 26)).cell? ⟨w48.heap.size + 1, 1, none⟩ = some (.int .i64 sae) := (unhide OBe_50).cell 1
          have ke2 : ((w48.alloc (.cells #[.int .i64 std, .int .i64 sad, .slice Ad nd cd] 26)).alloc (.cells #[.int .i64 ste, .int .i64 sae, .slice Ae ne ce] 26)).cell? ⟨w48.heap.size + 1, 2, none⟩ = some (.slice Ae ne ce) := (unhide OBe_50).cell 2
          go_wp2_with fail
          generalize (w48.alloc (.cells #[.int .i64 std, .int .i64 sad, .slice Ad nd cd] 26)).alloc (.cells #[.int .i64 ste, .int .i64 sae, .slice Ae ne ce] 26) = w50 at *
          generalize w48.heap.size + 1 = ge at *
          generalize w48.heap.size = gd at *
          obtain ⟨jst, jsa, jys, jok, hjo⟩ : ∃ p q r s, joinR std sad td ste sae te = (p, q, r, s) := ⟨_, _, _, _, rfl⟩
          have HT51 := hide (implJoin_any std sad Ad nd cd td ste sae Ae ne ce te w50 (unhide Od_50).ri (by omega) (unhide Oe_50).ri (by omega))
          rw [hjo] at HT51
          refine (unhide HT51).mono ?_
          rintro e w51 ⟨Aj, nj, cj, rfl, hO, hb⟩
          have HB51 := hide (below_next (unhide HB50) hb)
          have Od_51 := hide ((unhide Od_50).below hb (Nat.le_refl _))
          clear Od_50
          have Oe_51 := hide ((unhide Oe_50).below hb (Nat.le_refl _))
          clear Oe_50
          have OBd_51 := hide ((unhide OBd_50).below hb (Nat.le_refl _))
          clear OBd_50
          have OBe_51 := hide ((unhide OBe_50).below hb (Nat.le_refl _))
          clear OBe_50
          have Oj_51 := hide hO
          clear hb hO
          clear HT51
          clear kd0 kd1 kd2 ke0 ke1 ke2
          have OBj_52 := hide (show WhlO (w51.alloc (.cells #[.int .i64 jst, .int .i64 jsa, .slice Aj nj cj] 26)) w51.heap.size 26 #[.int .i64 jst, .int .i64 jsa, .slice Aj nj cj] from Whl.here w51 _ _)
          have HB52 := hide ((unhide HB51).alloc (unhide HB51).size (.cells #[.int .i64 jst, .int .i64 jsa, .slice Aj nj cj] 26))
          have Od_52 := hide ((unhide Od_51).alloc (.cells #[.int .i64 jst, .int .i64 jsa, .slice Aj nj cj] 26))
          clear Od_51
          have Oe_52 := hide ((unhide Oe_51).alloc (.cells #[.int .i64 jst, .int .i64 jsa, .slice Aj nj cj] 26))
          clear Oe_51
          have OBd_52 := hide ((unhide OBd_51).alloc (.cells #[.int .i64 jst, .int .i64 jsa, .slice Aj nj cj] 26))
          clear OBd_51
          have OBe_52 := hide ((unhide OBe_51).alloc (.cells #[.int .i64 jst, .int .i64 jsa, .slice Aj nj cj] 26))
          clear OBe_51
          have Oj_52 := hide ((unhide Oj_51).alloc (.cells #[.int .i64 jst, .int .i64 jsa, .slice Aj nj cj] 26))
          clear Oj_51
          have kd0 : (w51.alloc (.cells #[.int .i64 jst, .int .i64 jsa, .slice Aj nj cj] 26)).cell? ⟨gd, 0, none⟩ = some (.int .i64 std) := (unhide OBd_52).cell 0
          have kd1 : (w51.alloc (.cells #[.int .i64 jst, .int .i64 jsa, .slice Aj nj cj] 26)).cell? ⟨gd, 1, none⟩ = some (.int .i64 sad) := (unhide OBd_52).cell 1
          have kd2 : (w51.alloc (.cells #[.int .i64 jst, .int .i64 jsa, .slice Aj nj cj] 26)).cell? ⟨gd, 2, none⟩ = some (.slice Ad nd cd) := (unhide OBd_52).cell 2
          have ke0 : (w51.alloc (.cells #[.int .i64 jst, .int .i64 jsa, .slice Aj nj cj] 26)).cell? ⟨ge, 0, none⟩ = some (.int .i64 ste) := (unhide OBe_52).cell 0
          have ke1 : (w51.alloc (.cells #[.int .i64 jst, .int .i64 jsa, .slice Aj nj cj] 26)).cell? ⟨ge, 1, none⟩ = some (.int .i64 sae) := (unhide OBe_52).cell 1
          have ke2 : (w51.alloc (.cells #[.int .i64 jst, .int .i64 jsa, .slice Aj nj cj] 26)).cell? ⟨ge, 2, none⟩ = some (.slice Ae ne ce) := (unhide OBe_52).cell 2
          go_wp2_with fail
          generalize w51.heap.size = gj at *
          generalize w51.alloc (.cells #[.int .i64 jst, .int .i64 jsa, .slice Aj nj cj] 26) = w52 at *
          have HT53 := hide (specJoin_any std sad Ad nd cd td ste sae Ae ne ce te w52 (unhide Od_52).ri (by omega) (unhide Oe_52).ri (by omega))
          rw [hjo] at HT53
          refine (unhide HT53).mono ?_
          rintro e w53 ⟨Ah, nh, ch, rfl, hO, hb⟩
          have HB53 := hide (below_next (unhide HB52) hb)
          have Od_53 := hide ((unhide Od_52).below hb (Nat.le_refl _))
          clear Od_52
          have Oe_53 := hide ((unhide Oe_52).below hb (Nat.le_refl _))
          clear Oe_52
          have OBd_53 := hide ((unhide OBd_52).below hb (Nat.le_refl _))
          clear OBd_52
          have OBe_53 := hide ((unhide OBe_52).below hb (Nat.le_refl _))
          clear OBe_52
          have Oj_53 := hide ((unhide Oj_52).below hb (Nat.le_refl _))
          clear Oj_52
          have OBj_53 := hide ((unhide OBj_52).below hb (Nat.le_refl _))
          clear OBj_52
          have Oh_53 := hide hO
          clear hb hO
          clear HT53
          clear kd0 kd1 kd2 ke0 ke1 ke2
          have e11 := beq_same jok
          have OBh_54 := hide (show WhlO (w53.alloc (.cells #[.int .i64 jst, .int .i64 jsa, .slice Ah nh ch] 26)) w53.heap.size 26 #[.int .i64 jst, .int .i64 jsa, .slice Ah nh ch] from Whl.here w53 _ _)
          have HB54 := hide ((unhide HB53).alloc (unhide HB53).size (.cells #[.int .i64 jst, .int .i64 jsa, .slice Ah nh ch] 26))
          have Od_54 := hide ((unhide Od_53).alloc (.cells #[.int .i64 jst, .int .i64 jsa, .slice Ah nh ch] 26))
          clear Od_53
          have Oe_54 := hide ((unhide Oe_53).alloc (.cells #[.int .i64 jst, .int .i64 jsa, .slice Ah nh ch] 26))
          clear Oe_53
          have OBd_54 := hide ((unhide OBd_53).alloc (.cells #[.int .i64 jst, .int .i64 jsa, .slice Ah nh ch] 26))
          clear OBd_53
          have OBe_54 := hide ((unhide OBe_53).alloc (.cells #[.int .i64 jst, .int .i64 jsa, .slice Ah nh ch] 26))
          clear OBe_53
          have Oj_54 := hide ((unhide Oj_53).alloc (.cells #[.int .i64 jst, .int .i64 jsa, .slice Ah nh ch] 26))
          clear Oj_53
          have OBj_54 := hide ((unhide OBj_53).alloc (.cells #[.int .i64 jst, .int .i64 jsa, .slice Ah nh ch] 26))
          clear OBj_53
          have Oh_54 := hide ((unhide Oh_53).alloc (.cells #[.int .i64 jst, .int .i64 jsa, .slice Ah nh ch] 26))
          clear Oh_53
          have kj0 : (w53.alloc (.cells #[.int .i64 jst, .int .i64 jsa, .slice Ah nh ch] 26)).cell? ⟨gj, 0, none⟩ = some (.int .i64 jst) := (unhide OBj_54).cell 0
          have kj1 : (w53.alloc (.cells #[.int .i64 jst, .int .i64 jsa, .slice Ah nh ch] 26)).cell? ⟨gj, 1, none⟩ = some (.int .i64 jsa) := (unhide OBj_54).cell 1
          have kj2 : (w53.alloc (.cells #[.int .i64 jst, .int .i64 jsa, .slice Ah nh ch] 26)).cell? ⟨gj, 2, none⟩ = some (.slice Aj nj cj) := (unhide OBj_54).cell 2
          have kh0 : (w53.alloc (.cells #[.int .i64 jst, .int .i64 jsa, .slice Ah nh ch] 26)).cell? ⟨w53.heap.size, 0, none⟩ = some (.int .i64 jst) := (unhide OBh_54).cell 0
          have kh1 : (w53.alloc (.cells #[.int .i64 jst, .int .i64 jsa, .slice Ah nh ch] 26)).cell? ⟨w53.heap.size, 1, none⟩ = some (.int .i64 jsa) := (unhide OBh_54).cell 1
          have kh2 : (w53.alloc (.cells #[.int .i64 jst, .int .i64 jsa, .slice Ah nh ch] 26)).cell? ⟨w53.heap.size, 2, none⟩ = some (.slice Ah nh ch) := (unhide OBh_54).cell 2
          go_wp2_with fail
          generalize w53.heap.size = gh at *
          generalize w53.alloc (.cells #[.int .i64 jst, .int .i64 jsa, .slice Ah nh ch] 26) = w54 at *
          have HT55 := hide (vTrace_same jst jsa Aj Ah nj nh cj ch jys w54 (unhide Oj_54).ri (unhide Oh_54).ri (unhide Oj_54).max)
          refine (unhide HT55).mono ?_
          rintro e w55 ⟨rfl, hb⟩
          have HB55 := hide (below_next (unhide HB54) hb)
          have Od_55 := hide ((unhide Od_54).below hb (Nat.le_refl _))
          clear Od_54
          have Oe_55 := hide ((unhide Oe_54).below hb (Nat.le_refl _))
          clear Oe_54
          have OBd_55 := hide ((unhide OBd_54).below hb (Nat.le_refl _))
          clear OBd_54
          have OBe_55 := hide ((unhide OBe_54).below hb (Nat.le_refl _))
          clear OBe_54
          have Oj_55 := hide ((unhide Oj_54).below hb (Nat.le_refl _))
          clear Oj_54
          have OBj_55 := hide ((unhide OBj_54).below hb (Nat.le_refl _))
          clear OBj_54
          have Oh_55 := hide ((unhide Oh_54).below hb (Nat.le_refl _))
          clear Oh_54
          have OBh_55 := hide ((unhide OBh_54).below hb (Nat.le_refl _))
          clear OBh_54
          clear hb 
          clear HT55
          clear kj0 kj1 kj2 kh0 kh1 kh2
          go_wp2_with fail
          go_ret
          exact ⟨rfl, unhide HB55⟩
end Go.Proofs.YtdpmpdhhjmbbcaaGreatDoor
