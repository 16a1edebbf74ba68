/- The walk of the law FnExactFormatInt: it says true, at every input, where strconv's table is laid; what was there stays as it was. -/
import Derived.Test.YtajngpnpcefhdaaDoorProg
import Derived.Test.YtajngpnpcefhdaaDoorNum
namespace Go.Proofs.YtajngpnpcefhdaaDoor
open Go.RowKit

theorem law_FormatInt (a : Int) (w : World) (_ : -9223372036854775808 ≤ a ∧ a ≤ 9223372036854775807) (ht : Tab w) :
    Calls Tryd.prog 3 #[.int .i64 a] w fun e w' => e = .returned (.bool true) ∧ Below w.heap.size w w' := by
  obtain ⟨s, b, HS, HI⟩ : ∃ (s : ByteArray) (b : Bool), Hid (∀ W, Calls Tryd.prog 8 #[.int .i64 a] W (RetSB W s b)) ∧ Hid (∀ W, Tab W → Calls Tryd.prog 9 #[.int .i64 a] W (RetSB W s b)) :=
    ⟨_, _, fun W => specFormat_any a W, fun W h => implFormat_any a W h⟩
  have HT := hide ht
  clear ht
  go_enter Tryd.func3, Tryd.ntmps3
  go_wp2_with fail
  refine (unhide HS _).mono ?_
  rintro e w1 ⟨rfl, hb⟩
  have HB1 := hide hb
  clear hb
  go_wp2_with fail
  refine (unhide HI _ ((unhide HT).stays (unhide HB1))).mono ?_
  rintro e w2 ⟨rfl, hb⟩
  have HB2 := hide ((unhide HB1).trans (hb.mono (unhide HB1).size))
  clear hb
  have t1 : (s.toList == s.toList) = true := by simp
  go_wp2_with fail
  go_ret
  exact ⟨rfl, unhide HB2⟩
end Go.Proofs.YtajngpnpcefhdaaDoor
