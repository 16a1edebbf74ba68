/- The walks of the laws' helpers that write texts: the text of a mark. -/
import Derived.Test.YtihkocplgciifaaProg
import Derived.Test.YtihkocplgciifaaBase
import Derived.Laws.IdiomStrings
namespace Go.Proofs.Ytihkocplgciifaa
open Go.RowKit

/-- the digits of a number ahead of a text -/
def mtF (k : Nat) (out : ByteArray) : ByteArray :=
  if _h : k = 0 then out else mtF (k / 10) (⟨#[48 + UInt8.ofNat (k % 10)]⟩ ++ out)
termination_by k
decreasing_by omega
def mtxt (k : Nat) : ByteArray := if k = 0 then ⟨#[109, 48]⟩ else ⟨#[109]⟩ ++ mtF k ByteArray.empty

set_option maxHeartbeats 1000000 in
theorem run_digit (w : World) (j : Nat) : (convert 59 9 (.slice (some ⟨w.heap.size, 0, none⟩) 1 1)).run Try.prog (w.alloc (.cells #[.int .u8 (48 + (j : Int) % 10)] 5)) = .ok (.string ⟨#[UInt8.ofNat (48 + j % 10)]⟩) (w.alloc (.cells #[.int .u8 (48 + (j : Int) % 10)] 5)) := by
  have h := run_convert_bytes_back (P := Try.prog) (w.alloc (.cells #[.int .u8 (48 + (j : Int) % 10)] 5)) 59 9 5 ⟨w.heap.size, 0, none⟩ 1 [UInt8.ofNat (48 + j % 10)] Try.underlying59 Try.underlying5 Try.underlying9 (fun i hi => by
    obtain rfl : i = 0 := by simpa using hi
    have e : ((UInt8.ofNat (48 + j % 10)).toNat : Int) = 48 + (j : Int) % 10 := by
      rw [UInt8.toNat_ofNat']
      have : (48 + j % 10) % 2 ^ 8 = 48 + j % 10 := Nat.mod_eq_of_lt (by omega)
      rw [this]
      omega
    simp only [List.getElem_cons_zero, e]
    exact cellNew _ _ _)
  exact h
set_option maxRecDepth 100000 in
set_option maxHeartbeats 1000000 in
theorem markText_any (k : Nat) (w : World) (hk : k ≤ 1000000000) :
    Calls Try.prog 87 #[.int .i64 k] w fun e w' => e = .returned (.string (mtxt k)) ∧ Below w.heap.size w w' := by
  by_cases h0 : k = 0
  · subst h0
    go_enter Try.func87, Try.ntmps87
    go_wp2
    go_ret
    exact ⟨rfl, Below.refl _ _⟩
  · have h1 : 0 < k := by omega
    go_enter Try.func87, Try.ntmps87
    go_wp2
    go_loopw [0, 3] (fun q s wr => ∃ (j : Nat) (b : ByteArray), j ≤ k ∧ q = .int .i64 j ∧ s = .string b ∧ b.size + j ≤ k ∧ Hid (mtF j b = mtF k ByteArray.empty) ∧ Hid (Below w.heap.size w wr)) (fun q _ _ => (intOf q).toNat)
    case atStart => exact ⟨k, ByteArray.empty, Nat.le_refl _, rfl, rfl, by simp, rfl, Below.refl _ _⟩
    case round =>
      obtain ⟨j, b, hj, rfl, rfl, hsz, hM, hB⟩ := hrel
      by_cases hlt : 0 < j
      · have hd := run_digit wr j
        have HM2 : Hid (mtF (j / 10) (⟨#[48 + UInt8.ofNat (j % 10)]⟩ ++ b) = mtF k ByteArray.empty) := by
          have h9 := unhide hM
          rw [mtF, dif_neg (by omega)] at h9
          exact h9
        have hsz1 : b.size + 1 + j / 10 ≤ k := by omega
        have hb : b.size ≤ 1000000000 := by omega
        go_wp2
        go_roundw
        case rel => exact ⟨j / 10, _, by omega, by go_num, rfl, by rw [ByteArray.size_append]; show 1 + b.size + j / 10 ≤ k; omega, HM2, (unhide hB).alloc (unhide hB).size _⟩
        case measure => simp [intOf]; omega
      · obtain rfl : j = 0 := by omega
        have HM2 : Hid (mtxt k = ⟨#[109]⟩ ++ b) := by
          have h9 := unhide hM
          rw [mtF, dif_pos rfl] at h9
          unfold Hid mtxt
          rw [if_neg h0, h9]
        go_wp2
        go_ret
        exact ⟨by rw [unhide HM2]; rfl, unhide hB⟩
end Go.Proofs.Ytihkocplgciifaa
