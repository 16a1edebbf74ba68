/- A list in new memory: the program's and the reference's. -/
import Derived.Test.YtdpmpdhhjmbbcaaGreatDoorProg
import Derived.Test.YtdpmpdhhjmbbcaaGreatDoorInts
namespace Go.Proofs.YtdpmpdhhjmbbcaaGreatDoor
open Go.RowKit

theorem l1Own_any (A : Option Addr) (n c L : Nat) (xs : List Int) (w : World) (hr : RI w L A n xs) (hL : L ≤ w.heap.size) (hn : n ≤ 1048576) :
    Calls Tryz.prog 42 #[.slice A n c] w (RetI w xs) := by
  have HR := hide hr
  clear hr
  go_enter Tryz.func42, Tryz.ntmps42
  go_wp2_with (at_builtin; refine append_ints _ rfl _ _ rfl w _ 0 0 [] rfl (OwnI.empty w (Nat.le_refl _)) ((Below.refl _ w).alloc (Nat.le_refl _) _) A n c _ xs rfl ((unhide HR).alloc hL _) (by omega) ?_; intro A2 c2 w2 hO2 hB2 hg2 hl2)
  go_ret
  exact ⟨A2, n, c2, by simp, by simpa using hO2, hB2⟩

theorem copyOf_any (A : Option Addr) (n c L : Nat) (xs : List Int) (w : World) (hr : RI w L A n xs) (hL : L ≤ w.heap.size) (hn : n ≤ 1048576) :
    Calls Tryz.prog 31 #[.slice A n c] w (RetI w xs) := by
  have HR := hide hr
  clear hr
  go_enter Tryz.func31, Tryz.ntmps31
  go_wp2_with (at_builtin; refine append_ints _ rfl _ _ rfl w _ 0 0 [] rfl (OwnI.empty w (Nat.le_refl _)) ((Below.refl _ w).alloc (Nat.le_refl _) _) A n c _ xs rfl ((unhide HR).alloc hL _) (by omega) ?_; intro A2 c2 w2 hO2 hB2 hg2 hl2)
  go_ret
  exact ⟨A2, n, c2, by simp, by simpa using hO2, hB2⟩
end Go.Proofs.YtdpmpdhhjmbbcaaGreatDoor
