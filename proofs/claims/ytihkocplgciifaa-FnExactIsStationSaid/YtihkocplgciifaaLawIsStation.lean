/- The walk of the law FnExactIsStation: it says true, at every input; what was there stays as it was. (By gen_stLaw.py.) -/
import Derived.Test.YtihkocplgciifaaProg
import Derived.Test.YtihkocplgciifaaStB
namespace Go.Proofs.Ytihkocplgciifaa
open Go.RowKit
set_option linter.unusedVariables false

set_option maxHeartbeats 4000000 in
set_option maxRecDepth 100000 in
theorem law_IsStation (id : Int) (nm : ByteArray) (x y gn lw hg ut : Int)  (w : World) (hs : nm.size ≤ 9223372036854775807)  :
    Calls Try.prog 3 #[.agg #[.int .i64 id, .string nm, .int .i64 x, .int .i64 y, .int .i64 gn, .int .i64 lw, .int .i64 hg, .int .i64 ut]] w fun e w' => e = .returned (.bool true) ∧ Below w.heap.size w w' := by
  have B0 := hide ((Below.refl _ w).alloc (Nat.le_refl _) (.cells #[.int .i64 id, .string nm, .int .i64 x, .int .i64 y, .int .i64 gn, .int .i64 lw, .int .i64 hg, .int .i64 ut] 23))
  have T0 := hide (Box8.here w (.int .i64 id) (.string nm) (.int .i64 x) (.int .i64 y) (.int .i64 gn) (.int .i64 lw) (.int .i64 hg) (.int .i64 ut) 23)
  have Z := szStation_any id nm x y gn lw hg ut 1048576 (w.alloc (.cells #[.int .i64 id, .string nm, .int .i64 x, .int .i64 y, .int .i64 gn, .int .i64 lw, .int .i64 hg, .int .i64 ut] 23)) (by omega) (by omega) hs
  by_cases hbig : (1048576 : Int) - (nm.size : Int) < 0
  · rw [show szI 1048576 nm.size = -1 by unfold szI; rw [if_pos hbig]] at Z
    have HZ := hide Z
    clear Z
    go_enter Try.func3, Try.ntmps3
    go_wp2_with fail
    refine (unhide HZ).mono ?_
    rintro e w1 ⟨rfl, hb⟩
    have HB1 := hide ((unhide B0).trans (hb.mono (by simp)))
    clear hb
    go_wp2_with fail
    go_ret
    exact ⟨rfl, unhide HB1⟩
  · rw [show szI 1048576 nm.size = 1048576 - nm.size by unfold szI; rw [if_neg hbig]] at Z
    have HZ := hide Z
    clear Z
    obtain ⟨r0, HS, HI⟩ : ∃ (r0 : Bool), Hid (∀ W : World, Calls Try.prog 16 #[.agg #[.int .i64 id, .string nm, .int .i64 x, .int .i64 y, .int .i64 gn, .int .i64 lw, .int .i64 hg, .int .i64 ut]] W (fun e w' => e = .returned (.bool r0) ∧ Below W.heap.size W w')) ∧ Hid (∀ W : World, Calls Try.prog 18 #[.agg #[.int .i64 id, .string nm, .int .i64 x, .int .i64 y, .int .i64 gn, .int .i64 lw, .int .i64 hg, .int .i64 ut]] W (fun e w' => e = .returned (.bool r0) ∧ Below W.heap.size W w')) := ⟨_, fun W => specIsStation_any id nm x y gn lw hg ut W hs, fun W => implIsStation_any id nm x y gn lw hg ut W hs⟩
    go_enter Try.func3, Try.ntmps3
    go_wp2_with fail
    refine (unhide HZ).mono ?_
    rintro e w1 ⟨rfl, hb⟩
    have T1 := hide ((unhide T0).next hb)
    have HB1 := hide ((unhide B0).trans (hb.mono (by simp)))
    clear hb
    obtain ⟨s0, c0, c1, c2, c3, c4, c5, c6, c7⟩ := unhide T1
    go_wp2_with fail
    refine (toStation_any id nm x y gn lw hg ut _).mono ?_
    rintro e w2 ⟨rfl, hb⟩
    have T2 := hide ((unhide T1).next hb)
    have HB2 := hide (below_next (unhide HB1) hb)
    clear s0 c0 c1 c2 c3 c4 c5 c6 c7 hb
    obtain ⟨s0, c0, c1, c2, c3, c4, c5, c6, c7⟩ := unhide T2
    go_wp2_with fail
    refine (unhide HS _).mono ?_
    rintro e w3 ⟨rfl, hb⟩
    have T3 := hide ((unhide T2).next hb)
    have HB3 := hide (below_next (unhide HB2) hb)
    clear s0 c0 c1 c2 c3 c4 c5 c6 c7 hb
    obtain ⟨s0, c0, c1, c2, c3, c4, c5, c6, c7⟩ := unhide T3
    go_wp2_with fail
    refine (toStation_any id nm x y gn lw hg ut _).mono ?_
    rintro e w4 ⟨rfl, hb⟩
    have T4 := hide ((unhide T3).next hb)
    have HB4 := hide (below_next (unhide HB3) hb)
    clear s0 c0 c1 c2 c3 c4 c5 c6 c7 hb
    obtain ⟨s0, c0, c1, c2, c3, c4, c5, c6, c7⟩ := unhide T4
    go_wp2_with fail
    refine (unhide HI _).mono ?_
    rintro e w5 ⟨rfl, hb⟩
    have T5 := hide ((unhide T4).next hb)
    have HB5 := hide (below_next (unhide HB4) hb)
    clear s0 c0 c1 c2 c3 c4 c5 c6 c7 hb
    go_wp2_with fail
    go_ret
    exact ⟨rfl, unhide HB5⟩
end Go.Proofs.Ytihkocplgciifaa
