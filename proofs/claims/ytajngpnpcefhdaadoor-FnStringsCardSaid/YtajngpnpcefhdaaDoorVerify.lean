/- Chapter 1: the string of one with its checksum: the program's and the reference's. -/
import Derived.Test.YtajngpnpcefhdaaDoorProg
import Derived.Test.YtajngpnpcefhdaaDoorSeal
import Derived.Test.YtajngpnpcefhdaaDoorSplit
import Derived.Test.YtajngpnpcefhdaaDoorEnv
namespace Go.Proofs.YtajngpnpcefhdaaDoor
open Go.RowKit

/-- what stands ahead of the first mark -/
def headA (b : UInt8) (s : ByteArray) : ByteArray := ⟨((splitL b s.data.toList).headD []).toArray⟩
theorem headA_get (b : UInt8) (s : ByteArray) : (splitA b s)[0]? = some (headA b s) := by
  unfold splitA headA
  have h := splitL_ne b s.data.toList
  cases hq : splitL b s.data.toList with
  | nil => exact absurd hq h
  | cons x l => rfl
theorem headA_has (b : UInt8) (s : ByteArray) : hasB (headA b s) b = false := by
  unfold hasB headA
  rw [List.contains_eq_mem, decide_eq_false_iff_not]
  rcases byte_cases b s.data.toList with h | ⟨p, r, e, h⟩
  · rw [splitL_none _ h]; simpa using h
  · rw [e, splitL_hit p r h]; simpa using h
theorem headA_size (b : UInt8) (s : ByteArray) : (headA b s).size ≤ s.size := by
  rw [Lib.size_eq, Lib.size_eq]
  unfold headA
  rcases byte_cases b s.data.toList with h | ⟨p, r, e, h⟩
  · rw [splitL_none _ h]; simp
  · rw [e, splitL_hit p r h]; simp
/-- the string of one with its checksum, whether it is one -/
def verR (s : ByteArray) : ByteArray × Bool := if (decide (s.size ≤ 4000) && decide (sealB (headA 35 s) = s)) = true then (headA 35 s, true) else (ByteArray.empty, false)

set_option maxHeartbeats 1000000 in
theorem specVerify_any (s : ByteArray) (w : World) (hs : s.size ≤ 1048576) : Calls Tryd.prog 12 #[.string s] w (RetSB w (verR s).1 (verR s).2) := by
  by_cases h4 : s.size ≤ 4000
  · have HG := hide (headA_get 35 s)
    have HS := hide (fun W => l1Seal_any (headA 35 s) W (by have := headA_size 35 s; omega))
    have HP : Hid (∀ W, Calls Tryd.prog 29 #[.string s, .int .u8 35] W (RetT W (splitA 35 s))) := fun W => l1Split_any s 35 W hs
    by_cases h5 : sealB (headA 35 s) = s
    · have HRR : Hid (verR s = (headA 35 s, true)) := by unfold Hid verR; rw [decide_eq_true h4, decide_eq_true h5]; rfl
      have ht : ((sealB (headA 35 s)).toList == s.toList) = true := by rw [h5]; simp
      clear h5
      generalize headA 35 s = t at *
      generalize sealB t = z at *
      go_enter Tryd.func12, Tryd.ntmps12
      go_wp2_with fail
      refine (unhide HP _).mono ?_
      rintro e w1 ⟨A, n, c, rfl, hO, hb⟩
      have hn : 0 < n := by have h9 := hO.len; have := (List.getElem?_eq_some_iff.1 (unhide HG)).1; omega
      obtain ⟨ad, x, rfl, hbk, hx, hcx⟩ := hO.rt.get hn
      obtain rfl : x = t := Option.some.inj ((unhide hx).symm.trans (unhide HG))
      have hc' : w1.cell? ad = some (.string x) := hcx
      have l1 : (0 : Int) < (n : Int) := by omega
      have HB1 := hide hb
      clear hb hcx hx hO HP
      go_wp2_with fail
      refine (unhide HS _).mono ?_
      rintro e w2 ⟨rfl, hb⟩
      have HB2 := hide (below_next (unhide HB1) hb)
      clear hb
      go_wp2_with fail
      go_ret2
      rw [unhide HRR]
      exact ⟨rfl, unhide HB2⟩
    · have HRR : Hid (verR s = (ByteArray.empty, false)) := by unfold Hid verR; rw [decide_eq_true h4, decide_eq_false h5]; rfl
      have ht : ((sealB (headA 35 s)).toList == s.toList) = false := by rw [str_eq]; exact decide_eq_false h5
      clear h5
      generalize headA 35 s = t at *
      generalize sealB t = z at *
      go_enter Tryd.func12, Tryd.ntmps12
      go_wp2_with fail
      refine (unhide HP _).mono ?_
      rintro e w1 ⟨A, n, c, rfl, hO, hb⟩
      have hn : 0 < n := by have h9 := hO.len; have := (List.getElem?_eq_some_iff.1 (unhide HG)).1; omega
      obtain ⟨ad, x, rfl, hbk, hx, hcx⟩ := hO.rt.get hn
      obtain rfl : x = t := Option.some.inj ((unhide hx).symm.trans (unhide HG))
      have hc' : w1.cell? ad = some (.string x) := hcx
      have l1 : (0 : Int) < (n : Int) := by omega
      have HB1 := hide hb
      clear hb hcx hx hO HP
      go_wp2_with fail
      refine (unhide HS _).mono ?_
      rintro e w2 ⟨rfl, hb⟩
      have HB2 := hide (below_next (unhide HB1) hb)
      clear hb
      go_wp2_with fail
      go_ret2
      rw [unhide HRR]
      exact ⟨rfl, unhide HB2⟩
  · have HRR : Hid (verR s = (ByteArray.empty, false)) := by unfold Hid verR; rw [decide_eq_false h4]; rfl
    go_enter Tryd.func12, Tryd.ntmps12
    go_wp2_with fail
    go_ret2
    rw [unhide HRR]
    exact ⟨rfl, Below.refl _ _⟩

set_option maxHeartbeats 1000000 in
theorem implVerify_any (s : ByteArray) (w : World) (hs : s.size ≤ 1048576) (he : Env w) : Calls Tryd.prog 13 #[.string s] w (RetSB w (verR s).1 (verR s).2) := by
  obtain ⟨m, hm⟩ := he.ml
  have HA := hide (fun (W : World) (hb : Below w.heap.size w W) => implAppend_any (headA 35 s) W (by have := headA_size 35 s; omega) (he.tab.stays hb))
  have HC : Hid (∀ W, W = w → Calls Tryd.prog 30 #[.string s, .string ⟨#[35]⟩] W fun e w' => ∃ (u : ByteArray) (b : Bool), e = .returned (.tuple #[.string (headA 35 s), .string u, .bool b]) ∧ Below W.heap.size W w') := by
    rintro W rfl
    refine (Tryd.strings_Cut s ⟨#[35]⟩ m W (by omega) hm).mono ?_
    rintro e w' ⟨rfl, n, rfl⟩
    have e1 : (ByteArray.mk (Lib.cut s.data.toList (ByteArray.mk #[35]).data.toList).1.toArray) = headA 35 s := by
      unfold headA
      rw [← cut_first]
    rw [e1]
    exact ⟨_, _, rfl, below_drewN (Below.refl _ _) _⟩
  have hz := sealB_size (headA 35 s)
  have hh := headA_has 35 s
  clear hm he
  by_cases h : s.size ≤ 4000 ∧ sealB (headA 35 s) = s
  · obtain ⟨h4, h5⟩ := h
    have HRR : Hid (verR s = (headA 35 s, true)) := by unfold Hid verR; rw [decide_eq_true h4, decide_eq_true h5]; rfl
    have hap : appR (headA 35 s) = (s, true) := by
      unfold appR
      rw [hh, decide_eq_true (by rw [h5] at hz; omega), decide_eq_true (by rw [h5]; exact h4), h5]
      rfl
    rw [hap] at HA
    have ht : (s.toList == s.toList) = true := by simp
    clear h5 hap hz hh
    generalize headA 35 s = t at *
    go_enter Tryd.func13, Tryd.ntmps13
    go_wp2_with fail
    refine (unhide HC _ rfl).mono ?_
    rintro e w1 ⟨u, b, rfl, hb⟩
    have HB1 := hide hb
    clear hb
    go_wp2_with fail
    refine (unhide HA _ (unhide HB1)).mono ?_
    rintro e w2 ⟨rfl, hb⟩
    have HB2 := hide (below_next (unhide HB1) hb)
    clear hb
    go_wp2_with fail
    go_ret2
    rw [unhide HRR]
    exact ⟨rfl, unhide HB2⟩
  · have HRR : Hid (verR s = (ByteArray.empty, false)) := by
      unfold Hid verR
      rw [if_neg]
      intro h9
      rw [Bool.and_eq_true, decide_eq_true_iff, decide_eq_true_iff] at h9
      exact h h9
    rcases hk : (appR (headA 35 s)).2 with _ | _
    · clear h hz hh
      rw [hk] at HA
      clear hk
      generalize (appR (headA 35 s)).1 = z at *
      generalize headA 35 s = t at *
      go_enter Tryd.func13, Tryd.ntmps13
      go_wp2_with fail
      refine (unhide HC _ rfl).mono ?_
      rintro e w1 ⟨u, b, rfl, hb⟩
      have HB1 := hide hb
      clear hb
      go_wp2_with fail
      refine (unhide HA _ (unhide HB1)).mono ?_
      rintro e w2 ⟨rfl, hb⟩
      have HB2 := hide (below_next (unhide HB1) hb)
      clear hb
      go_wp2_with fail
      go_ret2
      rw [unhide HRR]
      exact ⟨rfl, unhide HB2⟩
    · have hap : (appR (headA 35 s)).1 = sealB (headA 35 s) ∧ (sealB (headA 35 s)).size ≤ 4000 := by
        unfold appR at hk ⊢
        split at hk
        · rename_i h9
          rw [if_pos h9]
          simp only [Bool.and_eq_true, decide_eq_true_iff] at h9
          exact ⟨rfl, h9.2.2⟩
        · cases hk
      have hne : sealB (headA 35 s) ≠ s := fun e => h ⟨by rw [← e]; exact hap.2, e⟩
      rw [hk, hap.1] at HA
      have ht : ((sealB (headA 35 s)).toList == s.toList) = false := by rw [str_eq]; exact decide_eq_false hne
      clear h hz hh hk hap hne
      generalize sealB (headA 35 s) = z at *
      generalize headA 35 s = t at *
      go_enter Tryd.func13, Tryd.ntmps13
      go_wp2_with fail
      refine (unhide HC _ rfl).mono ?_
      rintro e w1 ⟨u, b, rfl, hb⟩
      have HB1 := hide hb
      clear hb
      go_wp2_with fail
      refine (unhide HA _ (unhide HB1)).mono ?_
      rintro e w2 ⟨rfl, hb⟩
      have HB2 := hide (below_next (unhide HB1) hb)
      clear hb
      go_wp2_with fail
      go_ret2
      rw [unhide HRR]
      exact ⟨rfl, unhide HB2⟩
end Go.Proofs.YtajngpnpcefhdaaDoor
