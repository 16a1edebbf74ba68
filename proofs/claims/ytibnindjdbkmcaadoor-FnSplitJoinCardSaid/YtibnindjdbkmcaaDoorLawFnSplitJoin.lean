/- The walk of the law FnSplitJoin: it says true, at every input; what was there stays as it was. (By gen_FnSplitJoin.py.) -/
import Derived.Test.YtibnindjdbkmcaaDoorProg
import Derived.Test.YtibnindjdbkmcaaDoorDrawT
import Derived.Test.YtibnindjdbkmcaaDoorSplitJoin
import Derived.Deep.DeepCutAuto
namespace Go.Proofs.YtibnindjdbkmcaaDoor
open Go.RowKit
set_option linter.unusedVariables false

theorem bool_same (b : Bool) : (b != b) = false := by simp
set_option maxHeartbeats 4000000 in
set_option maxRecDepth 100000 in
theorem law_FnSplitJoin (A : Option Addr) (n c : Nat) (xs : List Int) (w : World) (hr : RB w w.heap.size A n xs) (hv : MaxL w) :
    Calls Tryd.prog 4 #[.slice A n c] w fun e w' => e = .returned (.bool true) ∧ Below w.heap.size w w' := by
  have HR := hide (fun (W : World) (hb : Below w.heap.size w W) => RB.later hr hb)
  have HV := hide hv
  have HB0 := hide (Below.refl w.heap.size w)
  clear hr hv
  go_enter Tryd.func4, Tryd.ntmps4
  go_wp2_with fail
  refine (vBig_any A n c w).mono ?_
  rintro e w1 ⟨rfl, rfl⟩
  by_cases hbig : 65536 < n
  · have hbt : decide (65536 < n) = true := by simpa using hbig
    go_wp2_with fail
    go_ret
    exact ⟨rfl, Below.refl _ _⟩
  have hbt : decide (65536 < n) = false := by simpa using hbig
  have hn : n ≤ 65536 := by omega
  clear hbig
  go_wp2_with fail
  refine (drawSplitString_any A n c xs _ (unhide HR _ (unhide HB0)) hn).mono ?_
  rintro e w1 ⟨s, sep, rfl, hs, hsep, hb⟩
  have HB1 := hide (below_next (unhide HB0) hb)
  clear hb 
  obtain ⟨ls, b, hlb⟩ : ∃ l b, splitR s sep = (l, b) := ⟨_, _, rfl⟩
  go_wp2_with fail
  have HT := hide (implSplit_any s sep w1 (by omega) (by omega) ((unhide HV).stays (unhide HB1)))
  rw [hlb] at HT
  refine (unhide HT).mono ?_
  rintro e w2 ⟨Al, nl, cl, rfl, hO, hb⟩
  have HB2 := hide (below_next (unhide HB1) hb)
  have Ol_2 := hide hO
  clear hb hO
  clear HT HV
  go_wp2_with fail
  refine (drawJoinStrings_any A n c xs _ (unhide HR _ (unhide HB2)) hn).mono ?_
  rintro e w3 ⟨Ak, nk, ck, tk, mark, rfl, hO, hnk, htk, hmark, hb⟩
  have HB3 := hide (below_next (unhide HB2) hb)
  have Ol_3 := hide ((unhide Ol_2).below hb (Nat.le_refl _))
  clear Ol_2
  have Ok_3 := hide hO
  clear hb hO
  obtain ⟨jv, jb, hjb⟩ : ∃ v b, joinR tk mark = (v, b) := ⟨_, _, rfl⟩
  go_wp2_with fail
  have HT := hide (implJoin_any Ak nk ck tk mark w3 (unhide Ok_3).rt (fun h0 => by obtain ⟨g0, h1, _⟩ := (unhide Ok_3).form h0; exact ⟨g0, h1⟩) (unhide Ok_3).cap (by omega) (by omega) (fun x hx => by have := htk x hx; omega))
  rw [hjb] at HT
  refine (unhide HT).mono ?_
  rintro e w4 ⟨rfl, hb⟩
  have HB4 := hide (below_next (unhide HB3) hb)
  have Ol_4 := hide ((unhide Ol_3).below hb (Nat.le_refl _))
  clear Ol_3
  have Ok_4 := hide ((unhide Ok_3).below hb (Nat.le_refl _))
  clear Ok_3
  clear hb 
  clear HT
  go_wp2_with fail
  have e1 : (jv.toList == jv.toList) = true := by simp
  have e2 : (jv.toList != jv.toList) = false := by simp
  have e3 := bool_same jb
  have HT := hide (specJoin_any Ak nk ck tk mark w4 (unhide Ok_4).rt (by omega) (by omega) (fun x hx => by have := htk x hx; omega))
  rw [hjb] at HT
  refine (unhide HT).mono ?_
  rintro e w5 ⟨rfl, hb⟩
  have HB5 := hide (below_next (unhide HB4) hb)
  have Ol_5 := hide ((unhide Ol_4).below hb (Nat.le_refl _))
  clear Ol_4
  have Ok_5 := hide ((unhide Ok_4).below hb (Nat.le_refl _))
  clear Ok_4
  clear hb 
  clear HT
  clear Ok_5
  go_wp2_with fail
  refine (drawLessString_any A n c xs _ (unhide HR _ (unhide HB5)) hn).mono ?_
  rintro e w6 ⟨a, z, rfl, _, _, hb⟩
  have HB6 := hide (below_next (unhide HB5) hb)
  have Ol_6 := hide ((unhide Ol_5).below hb (Nat.le_refl _))
  clear Ol_5
  clear hb 
  obtain ⟨la, hla⟩ : ∃ v, Op.bytesLess a.toList z.toList = v := ⟨_, rfl⟩
  obtain ⟨lz, hlz⟩ : ∃ v, Op.bytesLess z.toList a.toList = v := ⟨_, rfl⟩
  have has := less_asym a.toList z.toList
  have HA := hide (fun W => implLess_any a z W)
  have HS := hide (fun W => specLess_any a z W)
  have HZ := hide (fun W => implLess_any z a W)
  rw [hla, hlz] at has
  rw [hla] at HA HS
  rw [hlz] at HZ
  have e4 := bool_same la
  clear hla hlz
  go_upto_region 9 with (fail)
  go_cut [78] (fun v wx => v = .bool false ∧ wx = w6)
  case first =>
    go_wp2_with fail
    refine (unhide HA _).mono ?_
    rintro e wa ⟨rfl, rfl⟩
    go_wp2_with fail
    refine (unhide HS _).mono ?_
    rintro e wa ⟨rfl, rfl⟩
    go_wp2_with fail
    refine (unhide HA _).mono ?_
    rintro e wa ⟨rfl, rfl⟩
    rcases la with _ | _
    · go_wp2_with fail
      go_meet
      exact ⟨rfl, rfl⟩
    · obtain rfl : lz = false := by simpa using has
      go_wp2_with fail
      refine (unhide HZ _).mono ?_
      rintro e wa ⟨rfl, rfl⟩
      go_wp2_with fail
      go_meet
      exact ⟨rfl, rfl⟩
  case rest =>
    obtain ⟨rfl, rfl⟩ := hcut
    generalize wc = w6 at *
    clear HA HS HZ has e1 e2 e3 e4
    have HLN := hide ((unhide Ol_6)).len
    by_cases h1 : sep.size = 1
    · skip
      obtain ⟨q, rfl⟩ := Lib.one_byte sep h1
      obtain ⟨rfl, rfl⟩ : ls = splitA q s ∧ b = true := by
        have h2 : splitR s ⟨#[q]⟩ = (splitA q s, true) := by
          unfold splitR
          rw [if_pos (by rw [Bool.and_eq_true, decide_eq_true_iff, decide_eq_true_iff]; exact ⟨rfl, by omega⟩)]
          rfl
        rw [hlb] at h2
        cases h2
        exact ⟨rfl, rfl⟩
      have hjs := join_of_split q s (by omega)
      have hnl : nl ≤ 1048576 := by have h3 := splitA_len q s; have := unhide HLN; omega
      have h2 : ((((⟨#[q]⟩ : ByteArray).size : Nat) : Int) != 1) = false := rfl
      have h3 : (⟨#[q]⟩ : ByteArray).size = 1 := rfl
      have h4 : (s.toList == s.toList) = true := by simp
      clear hlb h1
      go_wp2_with fail
      have HT := hide (implJoin_any Al nl cl (splitA q s) ⟨#[q]⟩ w6 (unhide Ol_6).rt (fun h0 => by obtain ⟨g0, h1, _⟩ := (unhide Ol_6).form h0; exact ⟨g0, h1⟩) (unhide Ol_6).cap (by omega) (by omega) (part_small q s (by omega)))
      rw [hjs] at HT
      refine (unhide HT).mono ?_
      rintro e w7 ⟨rfl, hb⟩
      have HB7 := hide (below_next (unhide HB6) hb)
      have Ol_7 := hide ((unhide Ol_6).below hb (Nat.le_refl _))
      clear Ol_6
      clear hb 
      clear HT
      go_wp2_with fail
      go_ret
      exact ⟨rfl, unhide HB7⟩
    · skip
      obtain ⟨rfl, rfl⟩ : ls = [] ∧ b = false := by
        have h2 : splitR s sep = ([], false) := by
          unfold splitR
          rw [if_neg (by simp [h1])]
        rw [hlb] at h2
        cases h2
        exact ⟨rfl, rfl⟩
      obtain rfl : nl = 0 := (unhide HLN).symm
      have h2 : (((sep.size : Nat) : Int) != 1) = true := by simp; omega
      clear hlb
      go_wp2_with fail
      go_ret
      exact ⟨rfl, unhide HB6⟩
end Go.Proofs.YtibnindjdbkmcaaDoor
