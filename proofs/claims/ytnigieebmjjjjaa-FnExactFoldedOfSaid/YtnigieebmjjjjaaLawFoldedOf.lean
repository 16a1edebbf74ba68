/- The walk of the law FnExactFoldedOf: it says true, at every input; what was there stays as it was. By gen_law.py. -/
import Derived.Test.YtnigieebmjjjjaaProg
import Derived.Test.YtnigieebmjjjjaaPackC
namespace Go.Proofs.Ytnigieebmjjjjaa
open Go.RowKit
set_option linter.unusedVariables false

set_option maxHeartbeats 2000000 in
set_option maxRecDepth 100000 in
theorem law_FoldedOf (a0 : Int) (w : World) (hi0 : -9223372036854775808 ≤ a0 ∧ a0 ≤ 9223372036854775807) :
    Calls Try.prog 5 #[.int .i64 a0] w fun e w' => e = .returned (.bool true) ∧ Below w.heap.size w w' := by
  obtain ⟨r0, b1, HS, HI⟩ : ∃ (r0 : Int) (b1 : Bool), Hid (∀ (W : World) , Calls Try.prog 22 #[.int .i64 a0] W (RetNB W r0 b1)) ∧ Hid (∀ (W : World) , Calls Try.prog 23 #[.int .i64 a0] W (RetNB W r0 b1)) :=
    ⟨_, _, fun W   => specFoldedOf_any a0 W, fun W   => implFoldedOf_any a0 W⟩
  have HB0 := hide (Below.refl w.heap.size w)
  go_enter Try.func5, Try.ntmps5
  go_wp2_with fail
  refine (unhide HS _ ).mono ?_
  rintro e w1 ⟨rfl, hb1⟩
  have z1 := hb1.size
  have HB1 := hide ((unhide HB0).trans (hb1.mono (unhide HB0).size))
  clear hb1 HB0
  go_wp2_with fail
  refine (unhide HI _ ).mono ?_
  rintro e w2 ⟨rfl, hb2⟩
  have z2 := hb2.size
  have HB2 := hide ((unhide HB1).trans (hb2.mono (unhide HB1).size))
  clear hb2 HB1
  go_wp2_with fail
  go_ret
  exact ⟨rfl, unhide HB2⟩
end Go.Proofs.Ytnigieebmjjjjaa
