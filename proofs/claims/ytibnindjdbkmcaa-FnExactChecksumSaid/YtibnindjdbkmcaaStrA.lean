/- Chapter 1, the walks: the order of strings, the checksum: the program's and the reference's; the laws on them and on the constants. -/
import Derived.Test.YtibnindjdbkmcaaProg
import Derived.Test.YtibnindjdbkmcaaBase
namespace Go.Proofs.Ytibnindjdbkmcaa
open Go.RowKit

/-- the checksum of bytes, from h on -/
def sumB (h : Int) (l : List UInt8) : Int := l.foldl (fun h c => (41 * h + c.toNat + 1) % 999979) h
theorem sumB_snoc (h : Int) (l : List UInt8) (c : UInt8) : sumB h (l ++ [c]) = (41 * sumB h l + c.toNat + 1) % 999979 := by unfold sumB; rw [List.foldl_append]; rfl
theorem sumB_bound (h : Int) (h0 : 0 ≤ h ∧ h < 999979) (l : List UInt8) : 0 ≤ sumB h l ∧ sumB h l < 999979 := by
  induction l generalizing h with
  | nil => exact h0
  | cons c l ih =>
    unfold sumB
    rw [List.foldl_cons]
    exact ih _ ⟨Int.emod_nonneg _ (by omega), Int.emod_lt_of_pos _ (by omega)⟩
theorem take_snoc (s : ByteArray) (k : Nat) (h : k < s.size) : s.data.toList.take (k + 1) = s.data.toList.take k ++ [s[k]] := by
  rw [List.take_succ_eq_append_getElem (by simpa using h)]; rfl
/-- an int and a bool come back, and the world is as it was -/
def RetNS (w : World) (r : Int) (b : Bool) (e : Ending) (w' : World) : Prop := e = .returned (.tuple #[.int .i64 r, .bool b]) ∧ w = w'
/-- the checksum, whether there is one -/
def sumR (s : ByteArray) : Int × Bool := if s.size ≤ 4000 then (sumB 7 s.data.toList, true) else (0, false)

set_option maxHeartbeats 400000 in
theorem l1Sum_any (s : ByteArray) (w : World) (hs : s.size ≤ 9223372036854775807) : Calls Try.prog 16 #[.string s] w fun e w' => e = .returned (.int .i64 (sumB 7 s.data.toList)) ∧ w = w' := by
  go_enter Try.func16, Try.ntmps16
  go_wp2
  go_loop [3, 4] (fun h i => ∃ (k : Nat) (x : Int), k ≤ s.size ∧ i = .int .i64 k ∧ h = .int .i64 x ∧ 0 ≤ x ∧ x < 999979 ∧ Hid (x = sumB 7 (s.data.toList.take k))) (fun _ i => s.size - (intOf i).toNat)
  case atStart => exact ⟨0, 7, Nat.zero_le _, rfl, rfl, by omega, by omega, rfl⟩
  case round =>
    obtain ⟨k, x, hk, rfl, rfl, x0, x1, hX⟩ := hrel
    by_cases hlt : k < s.size
    · have HE : Hid ((41 * x + (s[k].toNat : Int) + 1) % 999979 = sumB 7 (s.data.toList.take (k + 1))) := by unfold Hid; rw [take_snoc s k hlt, sumB_snoc, ← unhide hX]
      have hc : (s[k].toNat : Int) < 256 := by have := UInt8.toNat_lt s[k]; omega
      have hc0 : (0 : Int) ≤ (s[k].toNat : Int) := by omega
      have b0 : 0 ≤ (41 * x + (s[k].toNat : Int) + 1) % 999979 := Int.emod_nonneg _ (by omega)
      have b1 : (41 * x + (s[k].toNat : Int) + 1) % 999979 < 999979 := Int.emod_lt_of_pos _ (by omega)
      have B := hide (And.intro b0 b1)
      clear hX b0 b1
      go_wp2
      go_round
      case rel => exact ⟨k + 1, _, by omega, by go_num, rfl, (unhide B).1, (unhide B).2, HE⟩
      case measure => simp [intOf]; omega
    · obtain rfl : k = s.size := by omega
      have HE : Hid (x = sumB 7 s.data.toList) := by
        have := unhide hX
        rwa [List.take_of_length_le (by simp)] at this
      clear hX
      go_wp2
      go_ret
      exact ⟨ret_int (unhide HE), rfl⟩

set_option maxHeartbeats 400000 in
theorem implChecksum_any (s : ByteArray) (w : World) (hs : s.size ≤ 9223372036854775807) : Calls Try.prog 10 #[.string s] w (RetNS w (sumR s).1 (sumR s).2) := by
  by_cases h4 : s.size ≤ 4000
  · have HRR : Hid (sumR s = (sumB 7 s.data.toList, true)) := by unfold Hid sumR; rw [if_pos h4]
    go_enter Try.func10, Try.ntmps10
    go_wp2
    go_loop [4, 11] (fun h i => ∃ (k : Nat) (x : Int), k ≤ s.size ∧ i = .int .i64 k ∧ h = .int .i64 x ∧ 0 ≤ x ∧ x < 999979 ∧ Hid (x = sumB 7 (s.data.toList.take k))) (fun _ i => s.size - (intOf i).toNat)
    case atStart => exact ⟨0, 7, Nat.zero_le _, rfl, rfl, by omega, by omega, rfl⟩
    case round =>
      obtain ⟨k, x, hk, rfl, rfl, x0, x1, hX⟩ := hrel
      by_cases hlt : k < s.size
      · have HE : Hid ((41 * x + (s[k].toNat : Int) + 1) % 999979 = sumB 7 (s.data.toList.take (k + 1))) := by unfold Hid; rw [take_snoc s k hlt, sumB_snoc, ← unhide hX]
        have hc : (s[k].toNat : Int) < 256 := by have := UInt8.toNat_lt s[k]; omega
        have hc0 : (0 : Int) ≤ (s[k].toNat : Int) := by omega
        have b0 : 0 ≤ (41 * x + (s[k].toNat : Int) + 1) % 999979 := Int.emod_nonneg _ (by omega)
        have b1 : (41 * x + (s[k].toNat : Int) + 1) % 999979 < 999979 := Int.emod_lt_of_pos _ (by omega)
        have B := hide (And.intro b0 b1)
        clear hX b0 b1
        go_wp2
        go_round
        case rel => exact ⟨k + 1, _, by omega, by go_num, rfl, (unhide B).1, (unhide B).2, HE⟩
        case measure => simp [intOf]; omega
      · obtain rfl : k = s.size := by omega
        have HE : Hid (x = sumB 7 s.data.toList) := by
          have := unhide hX
          rwa [List.take_of_length_le (by simp)] at this
        clear hX
        go_wp2
        go_ret2
        exact ⟨by rw [unhide HRR, ← unhide HE]; rfl, rfl⟩
  · have HRR : Hid (sumR s = (0, false)) := by unfold Hid sumR; rw [if_neg h4]
    go_enter Try.func10, Try.ntmps10
    go_wp2
    go_ret2
    exact ⟨by rw [unhide HRR]; rfl, rfl⟩
theorem specChecksum_any (s : ByteArray) (w : World) (hs : s.size ≤ 9223372036854775807) : Calls Try.prog 9 #[.string s] w (RetNS w (sumR s).1 (sumR s).2) := by
  have HC := hide (fun W => l1Sum_any s W hs)
  by_cases h4 : s.size ≤ 4000
  · have HRR : Hid (sumR s = (sumB 7 s.data.toList, true)) := by unfold Hid sumR; rw [if_pos h4]
    generalize sumB 7 s.data.toList = r at *
    go_enter Try.func9, Try.ntmps9
    go_wp2_with fail
    refine (unhide HC _).mono ?_
    rintro e w1 ⟨rfl, rfl⟩
    go_wp2_with fail
    go_ret2
    exact ⟨by rw [unhide HRR]; rfl, rfl⟩
  · have HRR : Hid (sumR s = (0, false)) := by unfold Hid sumR; rw [if_neg h4]
    go_enter Try.func9, Try.ntmps9
    go_wp2_with fail
    go_ret2
    exact ⟨by rw [unhide HRR]; rfl, rfl⟩

theorem law_Checksum (s : ByteArray) (w : World) (hs : s.size ≤ 9223372036854775807) : Calls Try.prog 5 #[.string s] w fun e w' => e = .returned (.bool true) ∧ Below w.heap.size w w' := by
  by_cases hbig : 1048576 < s.size
  · go_enter Try.func5, Try.ntmps5
    go_wp2_with fail
    go_ret
    exact ⟨rfl, Below.refl _ _⟩
  · have HS := hide (fun W => specChecksum_any s W hs)
    have HI := hide (fun W => implChecksum_any s W hs)
    generalize (sumR s).1 = r at *
    generalize (sumR s).2 = b at *
    go_enter Try.func5, Try.ntmps5
    go_wp2_with fail
    refine (unhide HS _).mono ?_
    rintro e w1 ⟨rfl, rfl⟩
    go_wp2_with fail
    refine (unhide HI _).mono ?_
    rintro e w1 ⟨rfl, rfl⟩
    go_wp2_with fail
    go_ret
    exact ⟨rfl, Below.refl _ _⟩

theorem law_Constants (w : World) : Calls Try.prog 3 #[] w fun e w' => e = .returned (.bool true) ∧ Below w.heap.size w w' := by
  go_enter Try.func3, Try.ntmps3
  go_wp2_with fail
  go_ret
  exact ⟨rfl, Below.refl _ _⟩

theorem specLess_any (a b : ByteArray) (w : World) : Calls Try.prog 7 #[.string a, .string b] w fun e w' => e = .returned (.bool (Op.bytesLess a.toList b.toList)) ∧ w = w' := by
  go_enter Try.func7, Try.ntmps7
  go_wp2_with fail
  go_ret
  exact ⟨rfl, rfl⟩
theorem implLess_any (a b : ByteArray) (w : World) : Calls Try.prog 8 #[.string a, .string b] w fun e w' => e = .returned (.bool (Op.bytesLess a.toList b.toList)) ∧ w = w' := by
  go_enter Try.func8, Try.ntmps8
  go_wp2_with fail
  go_ret
  exact ⟨rfl, rfl⟩
theorem law_LessString (a b : ByteArray) (w : World) (ha : a.size ≤ 9223372036854775807) (hb : b.size ≤ 9223372036854775807) : Calls Try.prog 4 #[.string a, .string b] w fun e w' => e = .returned (.bool true) ∧ Below w.heap.size w w' := by
  have HS := hide (fun W => specLess_any a b W)
  have HI := hide (fun W => implLess_any a b W)
  generalize Op.bytesLess a.toList b.toList = r at *
  by_cases h1 : 1048576 < a.size
  · go_enter Try.func4, Try.ntmps4
    go_wp2_with fail
    go_ret
    exact ⟨rfl, Below.refl _ _⟩
  · by_cases h2 : 1048576 < b.size
    · go_enter Try.func4, Try.ntmps4
      go_wp2_with fail
      go_ret
      exact ⟨rfl, Below.refl _ _⟩
    · go_enter Try.func4, Try.ntmps4
      go_wp2_with fail
      refine (unhide HS _).mono ?_
      rintro e w1 ⟨rfl, rfl⟩
      go_wp2_with fail
      refine (unhide HI _).mono ?_
      rintro e w1 ⟨rfl, rfl⟩
      go_wp2_with fail
      go_ret
      exact ⟨rfl, Below.refl _ _⟩
end Go.Proofs.Ytibnindjdbkmcaa
