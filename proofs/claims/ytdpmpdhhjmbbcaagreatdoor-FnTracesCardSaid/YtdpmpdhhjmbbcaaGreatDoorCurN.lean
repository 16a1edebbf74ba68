/- The reference's cursor over bytes, made new; a big input. -/
import Derived.Test.YtdpmpdhhjmbbcaaGreatDoorProg
import Derived.Test.YtdpmpdhhjmbbcaaGreatDoorCur
import Derived.Test.YtdpmpdhhjmbbcaaGreatDoorDraw
namespace Go.Proofs.YtdpmpdhhjmbbcaaGreatDoor
open Go.RowKit

theorem RB.later {w W : World} {A : Option Addr} {n : Nat} {xs : List Int} (h : RB w w.heap.size A n xs) (hb : Below w.heap.size w W) : RB W W.heap.size A n xs := ⟨(h.1.below hb).more hb.size, h.2⟩
theorem vBig_any (A : Option Addr) (n c : Nat) (w : World) : Calls Tryz.prog 4 #[.slice A n c] w fun e w' => e = .returned (.bool (decide (65536 < n))) ∧ w = w' := by
  by_cases h : 65536 < n
  · have h1 : (65536 : Int) < (n : Int) := by omega
    go_enter Tryz.func4, Tryz.ntmps4
    go_wp2_with fail
    go_ret
    exact ⟨by simp [h], rfl⟩
  · have h1 : ¬ (65536 : Int) < (n : Int) := by omega
    go_enter Tryz.func4, Tryz.ntmps4
    go_wp2_with fail
    go_ret
    exact ⟨by simp [h], rfl⟩
/-- a new cursor -/
theorem Cur.new {w : World} {A : Option Addr} {n : Nat} {xs : List Int} (c : Nat) (h : RB w w.heap.size A n xs) : Cur (w.alloc (.cells #[.slice A n c, .int .i64 0, .int .u64 0] 58)) w.heap.size A n c xs 0 :=
  ⟨⟨h.1.below ((Below.refl _ w).alloc (Nat.le_refl _) _), h.2⟩, 0, 0, Nat.le_refl _, Whl.here w _ _⟩
end Go.Proofs.YtdpmpdhhjmbbcaaGreatDoor
