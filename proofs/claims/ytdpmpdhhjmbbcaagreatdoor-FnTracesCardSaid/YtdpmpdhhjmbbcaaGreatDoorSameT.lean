/- Chapter 2, the walks: a list of numbers, a trace, against the same one; a sample's size. -/
import Derived.Test.YtdpmpdhhjmbbcaaGreatDoorProg
import Derived.Test.YtdpmpdhhjmbbcaaGreatDoorDrawTr
namespace Go.Proofs.YtdpmpdhhjmbbcaaGreatDoor
open Go.RowKit

theorem vInts_same (A B : Option Addr) (n m c d L M : Nat) (xs : List Int) (w : World) (hx : RI w L A n xs) (hy : RI w M B m xs) (hn : n ≤ 9223372036854775807) :
    Calls Tryz.prog 30 #[.slice A n c, .slice B m d] w fun e w' => e = .returned (.bool true) ∧ Below w.heap.size w w' := by
  have hnm : n = m := by have := hx.len; have := hy.len; omega
  subst hnm
  have HX := hide hx; have HY := hide hy; clear hx hy
  go_enter Tryz.func30, Tryz.ntmps30
  go_wp2
  go_loopw [5] (fun i wr => ∃ k : Nat, k ≤ n ∧ i = .int .i64 k ∧ Hid (∃ a, wr = w.drewN a)) (fun i _ => n - (intOf i).toNat)
  case atStart => exact ⟨0, Nat.zero_le _, rfl, 0, rfl⟩
  case round =>
    obtain ⟨k, hk, rfl, a, rfl⟩ := hrel
    by_cases hlt : k < n
    · obtain ⟨ad, x, rfl, _, hx, hc⟩ := (unhide HX).get hlt
      obtain ⟨ae, y, rfl, _, hy, hd⟩ := (unhide HY).get hlt
      obtain rfl : x = y := Option.some.inj ((unhide hx).symm.trans (unhide hy))
      have ht : (x != x) = false := by simp
      clear hx hy
      go_wp2
      go_quiet (fail)
      go_wp2
      go_roundw
      case rel => exact ⟨k + 1, by omega, by go_num, _, rfl⟩
      case measure => simp [intOf]; omega
    · have e : k = n := by omega
      subst e
      go_wp2
      go_ret
      exact ⟨rfl, below_drewN (Below.refl _ _) _⟩
theorem vTrace_same (st sa : Int) (A B : Option Addr) (n m c d : Nat) (xs : List Int) (w : World) (hx : RI w w.heap.size A n xs) (hy : RI w w.heap.size B m xs) (hn : n ≤ 9223372036854775807) :
    Calls Tryz.prog 10 #[.agg #[.int .i64 st, .int .i64 sa, .slice A n c], .agg #[.int .i64 st, .int .i64 sa, .slice B m d]] w fun e w' => e = .returned (.bool true) ∧ Below w.heap.size w w' := by
  have HX := hide hx; have HY := hide hy; clear hx hy
  have e1 : (st == st) = true := by simp
  have e2 : (sa == sa) = true := by simp
  have HC := hide (fun (W : World) (hb : Below w.heap.size w W) => vInts_same A B n m c d w.heap.size w.heap.size xs W ((unhide HX).below hb) ((unhide HY).below hb) hn)
  go_enter Tryz.func10, Tryz.ntmps10
  go_wp2_with fail
  refine (unhide HC _ (((Below.refl _ w).alloc (Nat.le_refl _) _).alloc (by simp) _)).mono ?_
  rintro e w1 ⟨rfl, hb⟩
  have HB := hide (below_nx (((Below.refl _ w).alloc (Nat.le_refl _) _).alloc (by simp) _) hb)
  clear hb
  go_wp2_with fail
  go_ret
  exact ⟨rfl, unhide HB⟩
end Go.Proofs.YtdpmpdhhjmbbcaaGreatDoor
