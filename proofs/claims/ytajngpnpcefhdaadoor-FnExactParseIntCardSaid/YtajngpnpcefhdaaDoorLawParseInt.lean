/- The walk of the law FnExactParseInt: it says true, at every input, where the library's variables are laid; what was there stays as it was. (By gen_strLaw.py.) -/
import Derived.Test.YtajngpnpcefhdaaDoorProg
import Derived.Test.YtajngpnpcefhdaaDoorParse
namespace Go.Proofs.YtajngpnpcefhdaaDoor
open Go.RowKit

theorem law_ParseInt (a : ByteArray) (w : World) (_ : a.size ≤ 9223372036854775807) (ht : EnvE w) :
    Calls Tryd.prog 6 #[.string a] w fun e w' => e = .returned (.bool true) ∧ Below w.heap.size w w' := by
  by_cases hb : 1048576 < a.size
  · clear ht
    go_enter Tryd.func6, Tryd.ntmps6
    go_wp2_with fail
    go_ret
    exact ⟨rfl, Below.refl _ _⟩
  have hb2 : a.size ≤ 1048576 := by omega
  clear hb
  obtain ⟨s, b, HS, HI⟩ : ∃ (s : Int) (b : Bool), Hid (∀ W, Calls Tryd.prog 14 #[.string a] W (RetNB W s b)) ∧ Hid (∀ W, EnvE W → Calls Tryd.prog 15 #[.string a] W (RetNB W s b)) :=
    ⟨_, _, fun W => specParse_any a W hb2, fun W h => implParse_any a W hb2 h⟩
  have HT := hide ht
  clear ht
  go_enter Tryd.func6, Tryd.ntmps6
  go_wp2_with fail
  refine (unhide HS _).mono ?_
  rintro e w1 ⟨rfl, hb⟩
  have HB1 := hide hb
  clear hb
  go_wp2_with fail
  refine (unhide HI _ ((unhide HT).stays (unhide HB1))).mono ?_
  rintro e w2 ⟨rfl, hb⟩
  have HB2 := hide ((unhide HB1).trans (hb.mono (unhide HB1).size))
  clear hb
  have t1 : (s != s) = false := by simp
  go_wp2_with fail
  go_ret
  exact ⟨rfl, unhide HB2⟩
end Go.Proofs.YtajngpnpcefhdaaDoor
