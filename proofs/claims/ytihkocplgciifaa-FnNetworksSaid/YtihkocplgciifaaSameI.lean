/- A list of numbers against the same list. -/
import Derived.Test.YtihkocplgciifaaProg
import Derived.Test.YtihkocplgciifaaInts
namespace Go.Proofs.Ytihkocplgciifaa
open Go.RowKit

theorem rInts_same (A B : Option Addr) (n m c d L M : Nat) (xs : List Int) (w : World) (hx : RI w L A n xs) (hy : RI w M B m xs) (hn : n ≤ 9223372036854775807) :
    Calls Try.prog 50 #[.slice A n c, .slice B m d] w fun e w' => e = .returned (.bool true) ∧ Below w.heap.size w w' := by
  have hnm : n = m := by have := hx.len; have := hy.len; omega
  subst hnm
  have HX := hide hx; have HY := hide hy; clear hx hy
  go_enter Try.func50, Try.ntmps50
  go_wp2
  go_loopw [5] (fun i wr => ∃ k : Nat, k ≤ n ∧ i = .int .i64 k ∧ Hid (∃ a, wr = w.drewN a)) (fun i _ => n - (intOf i).toNat)
  case atStart => exact ⟨0, Nat.zero_le _, rfl, 0, rfl⟩
  case round =>
    obtain ⟨k, hk, rfl, a, rfl⟩ := hrel
    by_cases hlt : k < n
    · obtain ⟨ad, x, rfl, _, hx, hc⟩ := (unhide HX).get hlt
      obtain ⟨ae, y, rfl, _, hy, hd⟩ := (unhide HY).get hlt
      obtain rfl : x = y := Option.some.inj ((unhide hx).symm.trans (unhide hy))
      have ht : (x != x) = false := by simp
      clear hx hy
      go_wp2
      go_quiet (fail)
      go_wp2
      go_roundw
      case rel => exact ⟨k + 1, by omega, by go_num, _, rfl⟩
      case measure => simp [intOf]; omega
    · have e : k = n := by omega
      subst e
      go_wp2
      go_ret
      exact ⟨rfl, below_drewN (Below.refl _ _) _⟩
end Go.Proofs.Ytihkocplgciifaa
