/- Does a byte stand in a string? The reference's walk. -/
import Derived.Test.YtajngpnpcefhdaaDoorProg
import Derived.Test.YtajngpnpcefhdaaDoorBase
import Derived.Lib.Strings
namespace Go.Proofs.YtajngpnpcefhdaaDoor
open Go.RowKit

theorem bytes_ext {a b : ByteArray} (h : a.data.toList = b.data.toList) : a = b := ByteArray.ext (Array.toList_inj.1 h)
/-- does a byte stand in a string? -/
def hasB (s : ByteArray) (c : UInt8) : Bool := s.data.toList.contains c
theorem take_snocB (s : ByteArray) (k : Nat) (h : k < s.size) : s.data.toList.take (k + 1) = s.data.toList.take k ++ [s[k]] := by
  rw [List.take_succ_eq_append_getElem (by simpa using h)]; rfl
theorem u8_ne {a b : UInt8} (h : a ≠ b) : ((a.toNat : Int) == (b.toNat : Int)) = false := by
  rw [beq_eq_false_iff_ne]
  intro e
  exact h (UInt8.toNat_inj.1 (Int.ofNat.inj e))

theorem one_byte {s : ByteArray} (h : s.size = 1) : ∃ c, s = ⟨#[c]⟩ := by
  obtain ⟨⟨l⟩⟩ := s
  have : l.length = 1 := h
  match l, this with
  | [c], _ => exact ⟨c, rfl⟩
/-- a string and a bool come back; what was there stays -/
def RetSB (w : World) (s : ByteArray) (b : Bool) (e : Ending) (w' : World) : Prop := e = .returned (.tuple #[.string s, .bool b]) ∧ Below w.heap.size w w'
set_option maxHeartbeats 400000 in
theorem l1Stands_any (s : ByteArray) (c : UInt8) (w : World) (hs : s.size ≤ 9223372036854775807) :
    Calls Tryd.prog 25 #[.string s, .int .u8 c.toNat] w fun e w' => e = .returned (.bool (hasB s c)) ∧ w = w' := by
  go_enter Tryd.func25, Tryd.ntmps25
  go_wp2
  go_loop [5] (fun i => ∃ k : Nat, k ≤ s.size ∧ i = .int .i64 k ∧ Hid ((s.data.toList.take k).contains c = false)) (fun i => s.size - (intOf i).toNat)
  case atStart => exact ⟨0, Nat.zero_le _, rfl, rfl⟩
  case round =>
    obtain ⟨k, hk, rfl, hX⟩ := hrel
    by_cases hlt : k < s.size
    · by_cases hc : s[k] = c
      · have HV : Hid (hasB s c = true) := by
          unfold Hid hasB
          rw [List.contains_iff_mem]
          have := List.getElem_mem (l := s.data.toList) (n := k) (by simpa using hlt)
          rw [← hc]
          exact this
        have ht : ((s[k].toNat : Int) == (c.toNat : Int)) = true := by rw [hc]; simp
        clear hc hX
        go_wp2
        go_ret
        exact ⟨ret_bool (unhide HV).symm, rfl⟩
      · have ht : ((s[k].toNat : Int) == (c.toNat : Int)) = false := u8_ne hc
        have HX2 : Hid ((s.data.toList.take (k + 1)).contains c = false) := by
          unfold Hid
          rw [take_snocB s k hlt, List.contains_append, unhide hX]
          simp [Ne.symm hc]
        clear hc hX
        go_wp2
        go_round
        case rel => exact ⟨k + 1, by omega, by go_num, HX2⟩
        case measure => simp [intOf]; omega
    · have HV : Hid (hasB s c = false) := by
        have h2 := unhide hX
        rw [List.take_of_length_le (by simp; omega)] at h2
        exact h2
      clear hX
      go_wp2
      go_ret
      exact ⟨ret_bool (unhide HV).symm, rfl⟩
end Go.Proofs.YtajngpnpcefhdaaDoor
