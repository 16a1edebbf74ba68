/- Chapter 1, the walks: the checksum. -/
import Derived.Test.YtajngpnpcefhdaaDoorProg
import Derived.Test.YtajngpnpcefhdaaDoorHas
namespace Go.Proofs.YtajngpnpcefhdaaDoor
open Go.RowKit

/-- the checksum of bytes, from h on -/
def sumB (h : Int) (l : List UInt8) : Int := l.foldl (fun h c => (41 * h + c.toNat + 1) % 999979) h
theorem sumB_snoc (h : Int) (l : List UInt8) (c : UInt8) : sumB h (l ++ [c]) = (41 * sumB h l + c.toNat + 1) % 999979 := by unfold sumB; rw [List.foldl_append]; rfl
theorem sumB_bound (h : Int) (h0 : 0 ≤ h ∧ h < 999979) (l : List UInt8) : 0 ≤ sumB h l ∧ sumB h l < 999979 := by
  induction l generalizing h with
  | nil => exact h0
  | cons c l ih =>
    unfold sumB
    rw [List.foldl_cons]
    exact ih _ ⟨Int.emod_nonneg _ (by omega), Int.emod_lt_of_pos _ (by omega)⟩
/-- an int and a bool come back, and the world is as it was -/
def RetNS (w : World) (r : Int) (b : Bool) (e : Ending) (w' : World) : Prop := e = .returned (.tuple #[.int .i64 r, .bool b]) ∧ w = w'
/-- the checksum, whether there is one -/
def sumR (s : ByteArray) : Int × Bool := if s.size ≤ 4000 then (sumB 7 s.data.toList, true) else (0, false)

set_option maxHeartbeats 400000 in
theorem l1Sum_any (s : ByteArray) (w : World) (hs : s.size ≤ 9223372036854775807) : Calls Tryd.prog 39 #[.string s] w fun e w' => e = .returned (.int .i64 (sumB 7 s.data.toList)) ∧ w = w' := by
  go_enter Tryd.func39, Tryd.ntmps39
  go_wp2
  go_loop [3, 4] (fun h i => ∃ (k : Nat) (x : Int), k ≤ s.size ∧ i = .int .i64 k ∧ h = .int .i64 x ∧ 0 ≤ x ∧ x < 999979 ∧ Hid (x = sumB 7 (s.data.toList.take k))) (fun _ i => s.size - (intOf i).toNat)
  case atStart => exact ⟨0, 7, Nat.zero_le _, rfl, rfl, by omega, by omega, rfl⟩
  case round =>
    obtain ⟨k, x, hk, rfl, rfl, x0, x1, hX⟩ := hrel
    by_cases hlt : k < s.size
    · have HE : Hid ((41 * x + (s[k].toNat : Int) + 1) % 999979 = sumB 7 (s.data.toList.take (k + 1))) := by unfold Hid; rw [take_snocB s k hlt, sumB_snoc, ← unhide hX]
      have hc : (s[k].toNat : Int) < 256 := by have := UInt8.toNat_lt s[k]; omega
      have hc0 : (0 : Int) ≤ (s[k].toNat : Int) := by omega
      have b0 : 0 ≤ (41 * x + (s[k].toNat : Int) + 1) % 999979 := Int.emod_nonneg _ (by omega)
      have b1 : (41 * x + (s[k].toNat : Int) + 1) % 999979 < 999979 := Int.emod_lt_of_pos _ (by omega)
      have B := hide (And.intro b0 b1)
      clear hX b0 b1
      go_wp2
      go_round
      case rel => exact ⟨k + 1, _, by omega, by go_num, rfl, (unhide B).1, (unhide B).2, HE⟩
      case measure => simp [intOf]; omega
    · obtain rfl : k = s.size := by omega
      have HE : Hid (x = sumB 7 s.data.toList) := by
        have := unhide hX
        rwa [List.take_of_length_le (by simp)] at this
      clear hX
      go_wp2
      go_ret
      exact ⟨ret_int (unhide HE), rfl⟩

set_option maxHeartbeats 400000 in
theorem implChecksum_any (s : ByteArray) (w : World) (hs : s.size ≤ 9223372036854775807) : Calls Tryd.prog 27 #[.string s] w (RetNS w (sumR s).1 (sumR s).2) := by
  by_cases h4 : s.size ≤ 4000
  · have HRR : Hid (sumR s = (sumB 7 s.data.toList, true)) := by unfold Hid sumR; rw [if_pos h4]
    go_enter Tryd.func27, Tryd.ntmps27
    go_wp2
    go_loop [4, 11] (fun h i => ∃ (k : Nat) (x : Int), k ≤ s.size ∧ i = .int .i64 k ∧ h = .int .i64 x ∧ 0 ≤ x ∧ x < 999979 ∧ Hid (x = sumB 7 (s.data.toList.take k))) (fun _ i => s.size - (intOf i).toNat)
    case atStart => exact ⟨0, 7, Nat.zero_le _, rfl, rfl, by omega, by omega, rfl⟩
    case round =>
      obtain ⟨k, x, hk, rfl, rfl, x0, x1, hX⟩ := hrel
      by_cases hlt : k < s.size
      · have HE : Hid ((41 * x + (s[k].toNat : Int) + 1) % 999979 = sumB 7 (s.data.toList.take (k + 1))) := by unfold Hid; rw [take_snocB s k hlt, sumB_snoc, ← unhide hX]
        have hc : (s[k].toNat : Int) < 256 := by have := UInt8.toNat_lt s[k]; omega
        have hc0 : (0 : Int) ≤ (s[k].toNat : Int) := by omega
        have b0 : 0 ≤ (41 * x + (s[k].toNat : Int) + 1) % 999979 := Int.emod_nonneg _ (by omega)
        have b1 : (41 * x + (s[k].toNat : Int) + 1) % 999979 < 999979 := Int.emod_lt_of_pos _ (by omega)
        have B := hide (And.intro b0 b1)
        clear hX b0 b1
        go_wp2
        go_round
        case rel => exact ⟨k + 1, _, by omega, by go_num, rfl, (unhide B).1, (unhide B).2, HE⟩
        case measure => simp [intOf]; omega
      · obtain rfl : k = s.size := by omega
        have HE : Hid (x = sumB 7 s.data.toList) := by
          have := unhide hX
          rwa [List.take_of_length_le (by simp)] at this
        clear hX
        go_wp2
        go_ret2
        exact ⟨by rw [unhide HRR, ← unhide HE]; rfl, rfl⟩
  · have HRR : Hid (sumR s = (0, false)) := by unfold Hid sumR; rw [if_neg h4]
    go_enter Tryd.func27, Tryd.ntmps27
    go_wp2
    go_ret2
    exact ⟨by rw [unhide HRR]; rfl, rfl⟩
end Go.Proofs.YtajngpnpcefhdaaDoor
