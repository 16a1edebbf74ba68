/- Chapter 1: numbers read from their texts: the program's and the reference's. (By gen_read.py.) -/
import Derived.Test.YtdpmpdhhjmbbcaaGreatDoorProg
import Derived.Test.YtdpmpdhhjmbbcaaGreatDoorNum
import Derived.Test.YtdpmpdhhjmbbcaaGreatDoorEnv
import Derived.Test.YtdpmpdhhjmbbcaaGreatDoorRets
namespace Go.Proofs.YtdpmpdhhjmbbcaaGreatDoor
open Go.RowKit

theorem str_eq' (a b : ByteArray) : (a.toList == b.toList) = decide (a = b) := by
  rw [Bool.eq_iff_iff, beq_iff_eq, decide_eq_true_iff]
  constructor
  · intro h
    rw [ByteArray.toList_eq, ByteArray.toList_eq] at h
    exact ByteArray.ext (Array.toList_inj.1 h)
  · intro h; rw [h]
theorem decFrom_step {t : ByteArray} {k : Nat} (hk : k < t.size) {m : Nat} (h : Lib.decFrom 0 (t.data.toList.take k) = some m) : Lib.decFrom 0 (t.data.toList.take (k + 1)) = if 48 ≤ t[k].toNat ∧ t[k].toNat ≤ 57 then some (m * 10 + (t[k].toNat - 48)) else none := by
  rw [take_snocB t k hk, decFrom_snoc, h, Option.bind_some]
  unfold Lib.digitVal
  split <;> rfl
theorem decFrom_none_take {l : List UInt8} {k : Nat} (h : Lib.decFrom 0 (l.take k) = none) : Lib.decFrom 0 l = none := by
  rcases hl : Lib.decFrom 0 l with _ | n
  · rfl
  · obtain ⟨m, hm⟩ := Lib.decFrom_prefix l 0 n hl k
    rw [h] at hm
    cases hm
/-- what the walk finds out of a text -/
theorem rd_small {s : ByteArray} (h : (magB s).size = 0 ∨ 6 < (magB s).size) : rdR s = (0, false) := rdR_no fun n h0 h1 e => by
  have := num_parts h0 h1 e
  omega
theorem rd_digit {s : ByteArray} (h : Lib.decFrom 0 (magB s).data.toList = none) : rdR s = (0, false) := rdR_no fun n h0 h1 e => by
  have := (num_parts h0 h1 e).2.2.2
  rw [h] at this
  cases this
theorem rd_value {s : ByteArray} {u : Nat} (h : Lib.decFrom 0 (magB s).data.toList = some u) (h6 : (magB s).size ≤ 6) {n : Int} (hn : n = if negB s = true then -(u : Int) else (u : Int)) : rdR s = if numB n = s then (n, true) else (0, false) := by
  have hu := decFrom_six h (by rw [← Lib.size_eq]; exact h6)
  have hb : -999999 ≤ n ∧ n ≤ 999999 := by subst hn; split <;> omega
  by_cases e : numB n = s
  · rw [if_pos e]
    exact rdR_ok hb.1 hb.2 e
  · rw [if_neg e]
    refine rdR_no fun n' h0 h1 e' => e ?_
    obtain ⟨p1, _, _, p4⟩ := num_parts h0 h1 e'
    rw [h] at p4
    have p5 := Option.some.inj p4
    rw [p1] at hn
    have : n = n' := by
      subst hn
      by_cases hneg : n' < 0
      · rw [if_pos (by simpa using hneg)]; omega
      · rw [if_neg (by simpa using hneg)]; omega
    rw [this]
    exact e'


set_option maxHeartbeats 1000000 in
theorem l1Read_any (s : ByteArray) (w : World) (hs : s.size ≤ 1048576) : Calls Tryz.prog 37 #[.string s] w (RetNB w (rdR s).1 (rdR s).2) := by
  rcases hg : negB s with _ | _
  · by_cases h1 : 1 < s.size
    · have g8 : ¬ s[0] = 45 := by
        intro e
        unfold negB at hg
        rw [decide_eq_true h1, Bool.true_and, beq_eq_false_iff_ne] at hg
        refine hg ?_
        rw [List.head?_eq_getElem?]
        exact List.getElem?_eq_some_iff.2 ⟨_, e⟩
      have g3 : ((s[0].toNat : Int) == 45) = false := u8_ne (b := 45) g8
      have g5 : (1 : Int) < (s.size : Int) := by omega
      clear g8
      have hm : magB s = s := by unfold magB; rw [if_neg (by rw [hg]; decide)]
      have hts : s.size = s.size := rfl
      have HM := hide hm
      by_cases hsz : 1 ≤ s.size ∧ s.size ≤ 6
      · obtain ⟨hz1, hz6⟩ := hsz
        have HIN : Hid (inB (s.size : Int) 1 6 = true) := inB_iff.2 ⟨by omega, by omega⟩
        clear hm
        go_enter Tryz.func37, Tryz.ntmps37
        go_wp2_with fail
        refine (l1In_any _ _ _ _).mono ?_
        rintro e w9 ⟨rfl, rfl⟩
        rw [(by exact HIN.out : inB (s.size : Int) 1 6 = true)]
        go_wp2_with fail
        go_loop [5, 6] (fun n i => ∃ k m : Nat, k ≤ s.size ∧ i = .int .i64 k ∧ n = .int .i64 m ∧ m ≤ 999999 ∧ Hid (Lib.decFrom 0 (s.data.toList.take k) = some m)) (fun _ i => s.size - (intOf i).toNat)
        case atStart => exact ⟨0, 0, Nat.zero_le _, rfl, rfl, by omega, by simp [Hid, Lib.decFrom]⟩
        case round =>
          obtain ⟨k, m, hk, rfl, rfl, hm9, hD⟩ := hrel
          by_cases hlt : k < s.size
          · have hst := decFrom_step hlt (unhide hD)
            by_cases hdg : 48 ≤ s[k].toNat ∧ s[k].toNat ≤ 57
            · rw [if_pos hdg] at hst
              obtain ⟨hd0, hd1⟩ := hdg
              have hm10 : m * 10 + (s[k].toNat - 48) ≤ 999999 := decFrom_six hst (by rw [List.length_take]; have := Nat.min_le_right (k + 1) s.data.toList.length; rw [← Lib.size_eq] at this; omega)
              have hi0 : (48 : Int) ≤ (s[k].toNat : Int) := by omega
              have hi1 : (s[k].toNat : Int) ≤ 57 := by omega
              have HST := hide hst
              clear hst hD hd0 hd1
              go_wp2_with fail
              go_round
              case rel => exact ⟨k + 1, m * 10 + (s[k].toNat - 48), by omega, by go_num, by congr 1; omega, hm10, HST⟩
              case measure => simp [intOf]; omega
            · rw [if_neg hdg] at hst
              have HRR : Hid (rdR s = (0, false)) := rd_digit (by rw [unhide HM]; exact decFrom_none_take hst)
              clear hst hD
              rcases (show (s[k].toNat : Int) < 48 ∨ (57 : Int) < (s[k].toNat : Int) by omega) with hq | hq
              · go_wp2_with fail
                go_ret2
                rw [unhide HRR]
                exact ⟨rfl, Below.refl _ _⟩
              · go_wp2_with fail
                go_ret2
                rw [unhide HRR]
                exact ⟨rfl, Below.refl _ _⟩
          · obtain rfl : k = s.size := by omega
            have hD2 := unhide hD
            rw [List.take_of_length_le (by rw [← Lib.size_eq]; exact Nat.le_refl _)] at hD2
            have HV : Hid (rdR s = if numB (m : Int) = s then ((m : Int), true) else (0, false)) := rd_value (u := m) (by rw [unhide HM]; exact hD2) (by rw [unhide HM]; exact hz6) (by rw [hg]; rfl)
            clear hD hD2 hg
            by_cases he : numB (m : Int) = s
            · have HRR : Hid (rdR s = ((m : Int), true)) := by rw [unhide HV]; exact if_pos he
              have ht : ((numB (m : Int)).toList == s.toList) = true := by rw [str_eq']; exact decide_eq_true he
              clear he HV
              go_wp2_with fail
              refine (l1Num_any (m : Int) _ (by omega) (by omega)).mono ?_
              rintro e w1 ⟨rfl, q, rfl⟩
              go_wp2_with fail
              go_ret2
              rw [unhide HRR]
              exact ⟨rfl, below_drewN (Below.refl _ _) _⟩
            · have HRR : Hid (rdR s = (0, false)) := by rw [unhide HV]; exact if_neg he
              have ht : ((numB (m : Int)).toList == s.toList) = false := by rw [str_eq']; exact decide_eq_false he
              clear he HV
              go_wp2_with fail
              refine (l1Num_any (m : Int) _ (by omega) (by omega)).mono ?_
              rintro e w1 ⟨rfl, q, rfl⟩
              go_wp2_with fail
              go_ret2
              rw [unhide HRR]
              exact ⟨rfl, below_drewN (Below.refl _ _) _⟩
      · have HIN : Hid (inB (s.size : Int) 1 6 = false) := inB_no.2 (by omega)
        have HRR : Hid (rdR s = (0, false)) := rd_small (by rw [hm]; omega)
        clear hm
        go_enter Tryz.func37, Tryz.ntmps37
        go_wp2_with fail
        refine (l1In_any _ _ _ _).mono ?_
        rintro e w9 ⟨rfl, rfl⟩
        rw [(by exact HIN.out : inB (s.size : Int) 1 6 = false)]
        go_wp2_with fail
        go_ret2
        rw [unhide HRR]
        exact ⟨rfl, Below.refl _ _⟩
    · have g5 : ¬ (1 : Int) < (s.size : Int) := by omega
      have hm : magB s = s := by unfold magB; rw [if_neg (by rw [hg]; decide)]
      have hts : s.size = s.size := rfl
      have HM := hide hm
      by_cases hsz : 1 ≤ s.size ∧ s.size ≤ 6
      · obtain ⟨hz1, hz6⟩ := hsz
        have HIN : Hid (inB (s.size : Int) 1 6 = true) := inB_iff.2 ⟨by omega, by omega⟩
        clear hm
        go_enter Tryz.func37, Tryz.ntmps37
        go_wp2_with fail
        refine (l1In_any _ _ _ _).mono ?_
        rintro e w9 ⟨rfl, rfl⟩
        rw [(by exact HIN.out : inB (s.size : Int) 1 6 = true)]
        go_wp2_with fail
        go_loop [5, 6] (fun n i => ∃ k m : Nat, k ≤ s.size ∧ i = .int .i64 k ∧ n = .int .i64 m ∧ m ≤ 999999 ∧ Hid (Lib.decFrom 0 (s.data.toList.take k) = some m)) (fun _ i => s.size - (intOf i).toNat)
        case atStart => exact ⟨0, 0, Nat.zero_le _, rfl, rfl, by omega, by simp [Hid, Lib.decFrom]⟩
        case round =>
          obtain ⟨k, m, hk, rfl, rfl, hm9, hD⟩ := hrel
          by_cases hlt : k < s.size
          · have hst := decFrom_step hlt (unhide hD)
            by_cases hdg : 48 ≤ s[k].toNat ∧ s[k].toNat ≤ 57
            · rw [if_pos hdg] at hst
              obtain ⟨hd0, hd1⟩ := hdg
              have hm10 : m * 10 + (s[k].toNat - 48) ≤ 999999 := decFrom_six hst (by rw [List.length_take]; have := Nat.min_le_right (k + 1) s.data.toList.length; rw [← Lib.size_eq] at this; omega)
              have hi0 : (48 : Int) ≤ (s[k].toNat : Int) := by omega
              have hi1 : (s[k].toNat : Int) ≤ 57 := by omega
              have HST := hide hst
              clear hst hD hd0 hd1
              go_wp2_with fail
              go_round
              case rel => exact ⟨k + 1, m * 10 + (s[k].toNat - 48), by omega, by go_num, by congr 1; omega, hm10, HST⟩
              case measure => simp [intOf]; omega
            · rw [if_neg hdg] at hst
              have HRR : Hid (rdR s = (0, false)) := rd_digit (by rw [unhide HM]; exact decFrom_none_take hst)
              clear hst hD
              rcases (show (s[k].toNat : Int) < 48 ∨ (57 : Int) < (s[k].toNat : Int) by omega) with hq | hq
              · go_wp2_with fail
                go_ret2
                rw [unhide HRR]
                exact ⟨rfl, Below.refl _ _⟩
              · go_wp2_with fail
                go_ret2
                rw [unhide HRR]
                exact ⟨rfl, Below.refl _ _⟩
          · obtain rfl : k = s.size := by omega
            have hD2 := unhide hD
            rw [List.take_of_length_le (by rw [← Lib.size_eq]; exact Nat.le_refl _)] at hD2
            have HV : Hid (rdR s = if numB (m : Int) = s then ((m : Int), true) else (0, false)) := rd_value (u := m) (by rw [unhide HM]; exact hD2) (by rw [unhide HM]; exact hz6) (by rw [hg]; rfl)
            clear hD hD2 hg
            by_cases he : numB (m : Int) = s
            · have HRR : Hid (rdR s = ((m : Int), true)) := by rw [unhide HV]; exact if_pos he
              have ht : ((numB (m : Int)).toList == s.toList) = true := by rw [str_eq']; exact decide_eq_true he
              clear he HV
              go_wp2_with fail
              refine (l1Num_any (m : Int) _ (by omega) (by omega)).mono ?_
              rintro e w1 ⟨rfl, q, rfl⟩
              go_wp2_with fail
              go_ret2
              rw [unhide HRR]
              exact ⟨rfl, below_drewN (Below.refl _ _) _⟩
            · have HRR : Hid (rdR s = (0, false)) := by rw [unhide HV]; exact if_neg he
              have ht : ((numB (m : Int)).toList == s.toList) = false := by rw [str_eq']; exact decide_eq_false he
              clear he HV
              go_wp2_with fail
              refine (l1Num_any (m : Int) _ (by omega) (by omega)).mono ?_
              rintro e w1 ⟨rfl, q, rfl⟩
              go_wp2_with fail
              go_ret2
              rw [unhide HRR]
              exact ⟨rfl, below_drewN (Below.refl _ _) _⟩
      · have HIN : Hid (inB (s.size : Int) 1 6 = false) := inB_no.2 (by omega)
        have HRR : Hid (rdR s = (0, false)) := rd_small (by rw [hm]; omega)
        clear hm
        go_enter Tryz.func37, Tryz.ntmps37
        go_wp2_with fail
        refine (l1In_any _ _ _ _).mono ?_
        rintro e w9 ⟨rfl, rfl⟩
        rw [(by exact HIN.out : inB (s.size : Int) 1 6 = false)]
        go_wp2_with fail
        go_ret2
        rw [unhide HRR]
        exact ⟨rfl, Below.refl _ _⟩
  · have hm : magB s = s.extract 1 s.size := by unfold magB; rw [if_pos hg]
    have hg2 := hg
    unfold negB at hg2
    rw [Bool.and_eq_true, decide_eq_true_iff] at hg2
    obtain ⟨g1, g2⟩ := hg2
    have g8 : s[0] = 45 := by
      have h9 : s.data.toList[0]? = some 45 := by rw [← List.head?_eq_getElem?]; exact beq_iff_eq.1 g2
      exact (List.getElem?_eq_some_iff.1 h9).2
    have g3 : ((s[0].toNat : Int) == 45) = true := by rw [g8]; rfl
    have hts : (s.extract 1 s.size).size = s.size - 1 := by rw [ByteArray.size_extract, Nat.min_self]
    have g4 : 1 ≤ s.size := by omega
    have g5 : (1 : Int) < (s.size : Int) := by omega
    clear g2 g8
    generalize hT : s.extract 1 s.size = t at hm hts
    have HT := hide hT
    clear hT
    have HTS := hide hts.symm
    have HM := hide hm
    by_cases hsz : 1 ≤ t.size ∧ t.size ≤ 6
    · obtain ⟨hz1, hz6⟩ := hsz
      have HIN : Hid (inB (t.size : Int) 1 6 = true) := inB_iff.2 ⟨by omega, by omega⟩
      clear hm
      go_enter Tryz.func37, Tryz.ntmps37
      go_wp2_with fail
      rw [unhide HT, unhide HTS]
      refine (l1In_any _ _ _ _).mono ?_
      rintro e w9 ⟨rfl, rfl⟩
      rw [(by exact HIN.out : inB (t.size : Int) 1 6 = true)]
      go_wp2_with fail
      go_loop [5, 6] (fun n i => ∃ k m : Nat, k ≤ t.size ∧ i = .int .i64 k ∧ n = .int .i64 m ∧ m ≤ 999999 ∧ Hid (Lib.decFrom 0 (t.data.toList.take k) = some m)) (fun _ i => t.size - (intOf i).toNat)
      case atStart => exact ⟨0, 0, Nat.zero_le _, rfl, rfl, by omega, by simp [Hid, Lib.decFrom]⟩
      case round =>
        obtain ⟨k, m, hk, rfl, rfl, hm9, hD⟩ := hrel
        by_cases hlt : k < t.size
        · have hst := decFrom_step hlt (unhide hD)
          by_cases hdg : 48 ≤ t[k].toNat ∧ t[k].toNat ≤ 57
          · rw [if_pos hdg] at hst
            obtain ⟨hd0, hd1⟩ := hdg
            have hm10 : m * 10 + (t[k].toNat - 48) ≤ 999999 := decFrom_six hst (by rw [List.length_take]; have := Nat.min_le_right (k + 1) t.data.toList.length; rw [← Lib.size_eq] at this; omega)
            have hi0 : (48 : Int) ≤ (t[k].toNat : Int) := by omega
            have hi1 : (t[k].toNat : Int) ≤ 57 := by omega
            have HST := hide hst
            clear hst hD hd0 hd1
            go_wp2_with fail
            go_round
            case rel => exact ⟨k + 1, m * 10 + (t[k].toNat - 48), by omega, by go_num, by congr 1; omega, hm10, HST⟩
            case measure => simp [intOf]; omega
          · rw [if_neg hdg] at hst
            have HRR : Hid (rdR s = (0, false)) := rd_digit (by rw [unhide HM]; exact decFrom_none_take hst)
            clear hst hD
            rcases (show (t[k].toNat : Int) < 48 ∨ (57 : Int) < (t[k].toNat : Int) by omega) with hq | hq
            · go_wp2_with fail
              go_ret2
              rw [unhide HRR]
              exact ⟨rfl, Below.refl _ _⟩
            · go_wp2_with fail
              go_ret2
              rw [unhide HRR]
              exact ⟨rfl, Below.refl _ _⟩
        · obtain rfl : k = t.size := by omega
          have hD2 := unhide hD
          rw [List.take_of_length_le (by rw [← Lib.size_eq]; exact Nat.le_refl _)] at hD2
          have HV : Hid (rdR s = if numB (-(m : Int)) = s then (-(m : Int), true) else (0, false)) := rd_value (u := m) (by rw [unhide HM]; exact hD2) (by rw [unhide HM]; exact hz6) (by rw [hg]; rfl)
          clear hD hD2 hg
          by_cases he : numB (-(m : Int)) = s
          · have HRR : Hid (rdR s = ((-(m : Int)), true)) := by rw [unhide HV]; exact if_pos he
            have ht : ((numB (-(m : Int))).toList == s.toList) = true := by rw [str_eq']; exact decide_eq_true he
            clear he HV
            go_wp2_with fail
            refine (l1Num_any (-(m : Int)) _ (by omega) (by omega)).mono ?_
            rintro e w1 ⟨rfl, q, rfl⟩
            go_wp2_with fail
            go_ret2
            rw [unhide HRR]
            exact ⟨rfl, below_drewN (Below.refl _ _) _⟩
          · have HRR : Hid (rdR s = (0, false)) := by rw [unhide HV]; exact if_neg he
            have ht : ((numB (-(m : Int))).toList == s.toList) = false := by rw [str_eq']; exact decide_eq_false he
            clear he HV
            go_wp2_with fail
            refine (l1Num_any (-(m : Int)) _ (by omega) (by omega)).mono ?_
            rintro e w1 ⟨rfl, q, rfl⟩
            go_wp2_with fail
            go_ret2
            rw [unhide HRR]
            exact ⟨rfl, below_drewN (Below.refl _ _) _⟩
    · have HIN : Hid (inB (t.size : Int) 1 6 = false) := inB_no.2 (by omega)
      have HRR : Hid (rdR s = (0, false)) := rd_small (by rw [hm]; omega)
      clear hm
      go_enter Tryz.func37, Tryz.ntmps37
      go_wp2_with fail
      rw [unhide HT, unhide HTS]
      refine (l1In_any _ _ _ _).mono ?_
      rintro e w9 ⟨rfl, rfl⟩
      rw [(by exact HIN.out : inB (t.size : Int) 1 6 = false)]
      go_wp2_with fail
      go_ret2
      rw [unhide HRR]
      exact ⟨rfl, Below.refl _ _⟩
end Go.Proofs.YtdpmpdhhjmbbcaaGreatDoor
