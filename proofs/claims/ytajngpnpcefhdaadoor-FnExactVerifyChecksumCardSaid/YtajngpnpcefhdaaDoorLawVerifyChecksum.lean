/- The walk of the law FnExactVerifyChecksum: it says true, at every input, where the library's variables are laid; what was there stays as it was. (By gen_strLaw.py.) -/
import Derived.Test.YtajngpnpcefhdaaDoorProg
import Derived.Test.YtajngpnpcefhdaaDoorVerify
namespace Go.Proofs.YtajngpnpcefhdaaDoor
open Go.RowKit

theorem law_VerifyChecksum (a : ByteArray) (w : World) (_ : a.size ≤ 9223372036854775807) (ht : Env w) :
    Calls Tryd.prog 5 #[.string a] w fun e w' => e = .returned (.bool true) ∧ Below w.heap.size w w' := by
  by_cases hb : 1048576 < a.size
  · clear ht
    go_enter Tryd.func5, Tryd.ntmps5
    go_wp2_with fail
    go_ret
    exact ⟨rfl, Below.refl _ _⟩
  have hb2 : a.size ≤ 1048576 := by omega
  clear hb
  obtain ⟨s, b, HS, HI⟩ : ∃ (s : ByteArray) (b : Bool), Hid (∀ W, Calls Tryd.prog 12 #[.string a] W (RetSB W s b)) ∧ Hid (∀ W, Env W → Calls Tryd.prog 13 #[.string a] W (RetSB W s b)) :=
    ⟨_, _, fun W => specVerify_any a W hb2, fun W h => implVerify_any a W hb2 h⟩
  have HT := hide ht
  clear ht
  go_enter Tryd.func5, Tryd.ntmps5
  go_wp2_with fail
  refine (unhide HS _).mono ?_
  rintro e w1 ⟨rfl, hb⟩
  have HB1 := hide hb
  clear hb
  go_wp2_with fail
  refine (unhide HI _ ((unhide HT).stays (unhide HB1))).mono ?_
  rintro e w2 ⟨rfl, hb⟩
  have HB2 := hide ((unhide HB1).trans (hb.mono (unhide HB1).size))
  clear hb
  have t1 : (s.toList == s.toList) = true := by simp
  go_wp2_with fail
  go_ret
  exact ⟨rfl, unhide HB2⟩
end Go.Proofs.YtajngpnpcefhdaaDoor
