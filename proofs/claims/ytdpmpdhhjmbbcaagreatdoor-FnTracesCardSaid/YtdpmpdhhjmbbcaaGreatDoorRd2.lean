/- Chapter 2, the walks: a number of at most seven digits: the reference's. -/
import Derived.Test.YtdpmpdhhjmbbcaaGreatDoorProg
import Derived.Test.YtdpmpdhhjmbbcaaGreatDoorParPlain
import Derived.Test.YtdpmpdhhjmbbcaaGreatDoorRead
namespace Go.Proofs.YtdpmpdhhjmbbcaaGreatDoor
open Go.RowKit

theorem rd2_big {s : ByteArray} (h : 7 < s.size) : rd2 s = -1 := by unfold rd2; rw [if_neg (by omega)]
theorem rd2_zero {s : ByteArray} (h : s.size = 0) : rd2 s = -1 := by unfold rd2; rw [if_neg (by omega)]
theorem rd2_none {s : ByteArray} (h : Lib.decFrom 0 s.data.toList = none) : rd2 s = -1 := by
  unfold rd2
  split
  · rw [h]
  · rfl
theorem rd2_some {s : ByteArray} {m : Nat} (h1 : 1 ≤ s.size) (h7 : s.size ≤ 7) (h : Lib.decFrom 0 s.data.toList = some m) : rd2 s = m := by
  unfold rd2
  rw [if_pos ⟨h1, h7⟩, h]
theorem decFrom_seven {l : List UInt8} {u : Nat} (h : Lib.decFrom 0 l = some u) (hl : l.length ≤ 7) : u ≤ 9999999 := by
  have h1 := Lib.decFrom_lt l 0 u h
  have h2 : 10 ^ l.length ≤ 10 ^ 7 := Nat.pow_le_pow_right (by omega) hl
  omega
set_option maxHeartbeats 1000000 in
theorem l2Read_any (s : ByteArray) (w : World) (hs : s.size ≤ 1048576) : Calls Tryz.prog 38 #[.string s] w fun e w' => e = .returned (.int .i64 (rd2 s)) ∧ Below w.heap.size w w' := by
  go_enter Tryz.func38, Tryz.ntmps38
  go_wp2_with fail
  go_loop [3, 4] (fun n i => ∃ k m : Nat, k ≤ s.size ∧ i = .int .i64 k ∧ n = .int .i64 m ∧ m ≤ 9999999 ∧ k ≤ 7 ∧ Hid (Lib.decFrom 0 (s.data.toList.take k) = some m)) (fun _ i => s.size - (intOf i).toNat)
  case atStart => exact ⟨0, 0, Nat.zero_le _, rfl, rfl, by omega, by omega, by simp [Hid, Lib.decFrom]⟩
  case round =>
    obtain ⟨k, m, hk, rfl, rfl, hm9, hk7, hD⟩ := hrel
    by_cases hlt : k < s.size
    · have hst := decFrom_step hlt (unhide hD)
      by_cases hdg : 48 ≤ s[k].toNat ∧ s[k].toNat ≤ 57
      · rw [if_pos hdg] at hst
        obtain ⟨hd0, hd1⟩ := hdg
        have hi0 : (48 : Int) ≤ (s[k].toNat : Int) := by omega
        have hi1 : (s[k].toNat : Int) ≤ 57 := by omega
        by_cases h6 : k ≤ 6
        · have hm10 : m * 10 + (s[k].toNat - 48) ≤ 9999999 := decFrom_seven hst (by rw [List.length_take]; have := Nat.min_le_left (k + 1) s.data.toList.length; omega)
          have hi6 : (k : Int) ≤ 6 := by omega
          have HST := hide hst
          clear hst hD hd0 hd1
          go_wp2_with fail
          go_round
          case rel => exact ⟨k + 1, m * 10 + (s[k].toNat - 48), by omega, by go_num, by congr 1; omega, hm10, by omega, HST⟩
          case measure => simp [intOf]; omega
        · have HRR : Hid (rd2 s = -1) := rd2_big (by omega)
          have hi6 : (6 : Int) < (k : Int) := by omega
          clear hst hD hd0 hd1
          go_wp2_with fail
          go_ret
          exact ⟨ret_int (unhide HRR).symm, Below.refl _ _⟩
      · rw [if_neg hdg] at hst
        have HRR : Hid (rd2 s = -1) := rd2_none (decFrom_none_take hst)
        clear hst hD
        rcases (show (s[k].toNat : Int) < 48 ∨ (57 : Int) < (s[k].toNat : Int) by omega) with hq | hq
        · go_wp2_with fail
          go_ret
          exact ⟨ret_int (unhide HRR).symm, Below.refl _ _⟩
        · go_wp2_with fail
          go_ret
          exact ⟨ret_int (unhide HRR).symm, Below.refl _ _⟩
    · obtain rfl : k = s.size := by omega
      have hD2 := unhide hD
      rw [List.take_of_length_le (by rw [← Lib.size_eq]; exact Nat.le_refl _)] at hD2
      by_cases h0 : s.size = 0
      · have HRR : Hid (rd2 s = -1) := rd2_zero h0
        have h1 : ((s.size : Int) == 0) = true := beq_iff_eq.2 (by omega)
        clear hD hD2
        go_wp2_with fail
        go_ret
        exact ⟨ret_int (unhide HRR).symm, Below.refl _ _⟩
      · have HRR : Hid (rd2 s = m) := rd2_some (by omega) hk7 hD2
        have h1 : ((s.size : Int) == 0) = false := beq_eq_false_iff_ne.2 (by omega)
        clear hD hD2
        go_wp2_with fail
        go_ret
        exact ⟨ret_int (unhide HRR).symm, Below.refl _ _⟩
end Go.Proofs.YtdpmpdhhjmbbcaaGreatDoor
