/- Chapter 1: a string with its checksum: the program's and the reference's. -/
import Derived.Test.YtajngpnpcefhdaaDoorProg
import Derived.Test.YtajngpnpcefhdaaDoorNum
import Derived.Test.YtajngpnpcefhdaaDoorSum
import Derived.Test.YtajngpnpcefhdaaDoorTxt
import Derived.Lib.IndexAny
namespace Go.Proofs.YtajngpnpcefhdaaDoor
open Go.RowKit

/-- a string, its mark, its checksum's text -/
def sealB (s : ByteArray) : ByteArray := s ++ ⟨#[35]⟩ ++ numB (sumB 7 s.data.toList)
theorem sealB_size (s : ByteArray) : s.size + 2 ≤ (sealB s).size + 1 ∧ (sealB s).size ≤ s.size + 22 := by
  have h := sumB_bound 7 (by omega) s.data.toList
  have h2 := numB_size (sumB 7 s.data.toList) (by omega) (by omega)
  unfold sealB
  rw [ByteArray.size_append, ByteArray.size_append]
  have e : (ByteArray.mk #[35]).size = 1 := rfl
  omega
/-- a string with its checksum, whether there is one -/
def appR (s : ByteArray) : ByteArray × Bool := if (decide (s.size ≤ 4000) && (!hasB s 35 && decide ((sealB s).size ≤ 4000))) = true then (sealB s, true) else (ByteArray.empty, false)

set_option maxHeartbeats 400000 in
theorem l1Seal_any (s : ByteArray) (w : World) (hs : s.size ≤ 2097152) : Calls Tryd.prog 26 #[.string s] w fun e w' => e = .returned (.string (sealB s)) ∧ Below w.heap.size w w' := by
  have HE : Hid (sealB s = s ++ ⟨#[35]⟩ ++ numB (sumB 7 s.data.toList)) := rfl
  obtain ⟨h0, h1⟩ := sumB_bound 7 (by omega) s.data.toList
  have h2 := numB_size (sumB 7 s.data.toList) (by omega) (by omega)
  have HS := hide (fun W => l1Sum_any s W (by omega))
  generalize sumB 7 s.data.toList = h at HE h0 h1 h2 HS
  go_enter Tryd.func26, Tryd.ntmps26
  go_wp2_with fail
  refine (unhide HS _).mono ?_
  rintro e w1 ⟨rfl, rfl⟩
  go_wp2_with fail
  refine (l1Num_any h _ (by omega) (by omega)).mono ?_
  rintro e w2 ⟨rfl, m, rfl⟩
  go_wp2_with fail
  go_ret
  rw [unhide HE]
  exact ⟨rfl, below_drewN (Below.refl _ _) _⟩

set_option maxHeartbeats 400000 in
theorem specAppend_any (s : ByteArray) (w : World) (hs : s.size ≤ 1048576) : Calls Tryd.prog 10 #[.string s] w (RetSB w (appR s).1 (appR s).2) := by
  by_cases h4 : s.size ≤ 4000
  · rcases hh : hasB s 35 with _ | _
    · have HH : Hid (∀ W, Calls Tryd.prog 25 #[.string s, .int .u8 35] W fun e w' => e = .returned (.bool false) ∧ W = w') := fun W => (l1Stands_any s 35 W (by omega)).mono fun _ _ ⟨a, h⟩ => ⟨by rw [a, hh], h⟩
      have HS := hide (fun W => l1Seal_any s W (by omega))
      by_cases h5 : (sealB s).size ≤ 4000
      · have HRR : Hid (appR s = (sealB s, true)) := by unfold Hid appR; rw [hh, decide_eq_true h4, decide_eq_true h5]; rfl
        clear hh
        go_enter Tryd.func10, Tryd.ntmps10
        go_wp2_with fail
        refine (unhide HH _).mono ?_
        rintro e w1 ⟨rfl, rfl⟩
        go_wp2_with fail
        refine (unhide HS _).mono ?_
        rintro e w1 ⟨rfl, hb⟩
        have HB1 := hide hb
        clear hb
        go_wp2_with fail
        refine (unhide HS _).mono ?_
        rintro e w2 ⟨rfl, hb⟩
        have HB2 := hide (below_next (unhide HB1) hb)
        clear hb
        go_wp2_with fail
        go_ret2
        rw [unhide HRR]
        exact ⟨rfl, unhide HB2⟩
      · have HRR : Hid (appR s = (ByteArray.empty, false)) := by unfold Hid appR; rw [hh, decide_eq_true h4, decide_eq_false h5]; rfl
        clear hh
        go_enter Tryd.func10, Tryd.ntmps10
        go_wp2_with fail
        refine (unhide HH _).mono ?_
        rintro e w1 ⟨rfl, rfl⟩
        go_wp2_with fail
        refine (unhide HS _).mono ?_
        rintro e w1 ⟨rfl, hb⟩
        have HB1 := hide hb
        clear hb
        go_wp2_with fail
        go_ret2
        rw [unhide HRR]
        exact ⟨rfl, unhide HB1⟩
    · have HH : Hid (∀ W, Calls Tryd.prog 25 #[.string s, .int .u8 35] W fun e w' => e = .returned (.bool true) ∧ W = w') := fun W => (l1Stands_any s 35 W (by omega)).mono fun _ _ ⟨a, h⟩ => ⟨by rw [a, hh], h⟩
      have HRR : Hid (appR s = (ByteArray.empty, false)) := by unfold Hid appR; rw [hh, decide_eq_true h4]; rfl
      clear hh
      go_enter Tryd.func10, Tryd.ntmps10
      go_wp2_with fail
      refine (unhide HH _).mono ?_
      rintro e w1 ⟨rfl, rfl⟩
      go_wp2_with fail
      go_ret2
      rw [unhide HRR]
      exact ⟨rfl, Below.refl _ _⟩
  · have HRR : Hid (appR s = (ByteArray.empty, false)) := by unfold Hid appR; rw [decide_eq_false h4]; rfl
    go_enter Tryd.func10, Tryd.ntmps10
    go_wp2_with fail
    go_ret2
    rw [unhide HRR]
    exact ⟨rfl, Below.refl _ _⟩

set_option maxHeartbeats 400000 in
theorem implAppend_any (s : ByteArray) (w : World) (hs : s.size ≤ 1048576) (ht : Tab w) : Calls Tryd.prog 11 #[.string s] w (RetSB w (appR s).1 (appR s).2) := by
  have HC := hide (implChecksum_any s w (by omega))
  by_cases h4 : s.size ≤ 4000
  · have HE : Hid (sumR s = (sumB 7 s.data.toList, true)) := by unfold Hid sumR; rw [if_pos h4]
    rw [unhide HE] at HC
    obtain ⟨h0, h1⟩ := sumB_bound 7 (by omega) s.data.toList
    have h2 := numB_size (sumB 7 s.data.toList) (by omega) (by omega)
    have HI := hide (Itoa_any (sumB 7 s.data.toList) w (by omega) (by omega) ht)
    have HS : Hid (sealB s = s ++ ⟨#[35]⟩ ++ numB (sumB 7 s.data.toList)) := rfl
    have hz : (sealB s).size = s.size + 1 + (numB (sumB 7 s.data.toList)).size := by rw [unhide HS, ByteArray.size_append, ByteArray.size_append]; rfl
    clear ht HE
    rcases hh : hasB s 35 with _ | _
    · have HH : Hid (∀ W, Calls Tryd.prog 28 #[.string s, .string ⟨#[35]⟩] W fun e w' => e = .returned (.bool false) ∧ w' = W) := fun W => (Tryd.strings_Contains_one s 35 W).mono fun _ _ ⟨a, h⟩ => ⟨by rw [a, ← Lib.contains_iff_indexByte]; exact congrArg _ (congrArg _ hh), h⟩
      by_cases h5 : (sealB s).size ≤ 4000
      · have HRR : Hid (appR s = (sealB s, true)) := by unfold Hid appR; rw [hh, decide_eq_true h4, decide_eq_true h5]; rfl
        clear hh
        rw [unhide HS] at HRR
        rw [hz] at h5
        generalize sumB 7 s.data.toList = h at *
        have h6 : (s.size : Int) + 1 + ((numB h).size : Int) ≤ 4000 := by omega
        clear hz HS
        go_enter Tryd.func11, Tryd.ntmps11
        go_wp2_with fail
        refine (unhide HC).mono ?_
        rintro e w1 ⟨rfl, rfl⟩
        go_wp2_with fail
        refine (unhide HI).mono ?_
        rintro e w1 ⟨rfl, hb⟩
        have HB1 := hide hb
        clear hb
        go_wp2_with fail
        refine (unhide HH _).mono ?_
        rintro e w2 ⟨rfl, rfl⟩
        go_wp2_with fail
        go_ret2
        rw [unhide HRR]
        exact ⟨rfl, unhide HB1⟩
      · have HRR : Hid (appR s = (ByteArray.empty, false)) := by unfold Hid appR; rw [hh, decide_eq_true h4, decide_eq_false h5]; rfl
        clear hh
        rw [hz] at h5
        generalize sumB 7 s.data.toList = h at *
        have h6 : (4000 : Int) < (s.size : Int) + 1 + ((numB h).size : Int) := by omega
        clear hz HS
        go_enter Tryd.func11, Tryd.ntmps11
        go_wp2_with fail
        refine (unhide HC).mono ?_
        rintro e w1 ⟨rfl, rfl⟩
        go_wp2_with fail
        refine (unhide HI).mono ?_
        rintro e w1 ⟨rfl, hb⟩
        have HB1 := hide hb
        clear hb
        go_wp2_with fail
        refine (unhide HH _).mono ?_
        rintro e w2 ⟨rfl, rfl⟩
        go_wp2_with fail
        go_ret2
        rw [unhide HRR]
        exact ⟨rfl, unhide HB1⟩
    · have HH : Hid (∀ W, Calls Tryd.prog 28 #[.string s, .string ⟨#[35]⟩] W fun e w' => e = .returned (.bool true) ∧ w' = W) := fun W => (Tryd.strings_Contains_one s 35 W).mono fun _ _ ⟨a, h⟩ => ⟨by rw [a, ← Lib.contains_iff_indexByte]; exact congrArg _ (congrArg _ hh), h⟩
      have HRR : Hid (appR s = (ByteArray.empty, false)) := by unfold Hid appR; rw [hh, decide_eq_true h4]; rfl
      clear hh hz HS
      generalize sumB 7 s.data.toList = h at *
      go_enter Tryd.func11, Tryd.ntmps11
      go_wp2_with fail
      refine (unhide HC).mono ?_
      rintro e w1 ⟨rfl, rfl⟩
      go_wp2_with fail
      refine (unhide HI).mono ?_
      rintro e w1 ⟨rfl, hb⟩
      have HB1 := hide hb
      clear hb
      go_wp2_with fail
      refine (unhide HH _).mono ?_
      rintro e w2 ⟨rfl, rfl⟩
      go_wp2_with fail
      go_ret2
      rw [unhide HRR]
      exact ⟨rfl, unhide HB1⟩
  · have HE : Hid (sumR s = (0, false)) := by unfold Hid sumR; rw [if_neg h4]
    rw [unhide HE] at HC
    have HRR : Hid (appR s = (ByteArray.empty, false)) := by unfold Hid appR; rw [decide_eq_false h4]; rfl
    have HI := hide (Itoa_any 0 w (by omega) (by omega) ht)
    have h2 := numB_size 0 (by omega) (by omega)
    clear ht HE
    go_enter Tryd.func11, Tryd.ntmps11
    go_wp2_with fail
    refine (unhide HC).mono ?_
    rintro e w1 ⟨rfl, rfl⟩
    go_wp2_with fail
    refine (unhide HI).mono ?_
    rintro e w1 ⟨rfl, hb⟩
    have HB1 := hide hb
    clear hb
    go_wp2_with fail
    go_ret2
    rw [unhide HRR]
    exact ⟨rfl, unhide HB1⟩
end Go.Proofs.YtajngpnpcefhdaaDoor
