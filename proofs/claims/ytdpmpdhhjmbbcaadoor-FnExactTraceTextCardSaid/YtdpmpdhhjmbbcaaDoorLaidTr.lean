/- What the rows' condition gives the walks: strconv's table by which digits are counted. -/
import Derived.Test.YtdpmpdhhjmbbcaaDoorRows
import Derived.Test.YtdpmpdhhjmbbcaaDoorNum
import Derived.Test.YtdpmpdhhjmbbcaaDoorOpenT
import Derived.Lib.LaidTab
import Derived.MakeChecks
import Derived.ProofKit
import Derived.OpenShut
namespace Go.Proofs.YtdpmpdhhjmbbcaaDoor
open Go.RowKit

theorem gPow : Tryd.prog.globalNamed "internal/strconv.uint64pow10" = some 3 := by kernel_rfl
theorem tPow : ∃ t, (Tryd.prog.globals[3]?).map (·.type) = some t ∧ ∃ e, Tryd.prog.underlying t = some (.array 20 e) ∧ Tryd.prog.underlying e = some (.int .u64) ∧ Tryd.prog.cellsOf e = 1 ∧ Tryd.prog.cellsOf t = 20 :=
  ⟨_, rfl, 80, by kernel_rfl, by kernel_rfl, by kernel_rfl, by kernel_rfl⟩
theorem tab3 {d0 d1 : String × DataW Unit} {rest : List (String × DataW Unit)} {W : World} (h : laidMet Tryd.prog (d0 :: d1 :: ("internal/strconv.uint64pow10", Rows.laid_internal_strconv_uint64pow10) :: rest) W) : Tab W := by
  obtain ⟨ps, ⟨g0, t0, cs0, f0, p0, q0, hg0, ht0, hv0, hd0, ⟨g1, t1, cs1, f1, p1, q1, hg1, ht1, hv1, hd1, ⟨g2, t2, cs2, f2, p2, q2, hg2, ht2, hv2, hd2, _, _⟩, _⟩, _⟩, _⟩ := h
  obtain ⟨t, hty, e, hu, he, hce, hct⟩ := tPow
  obtain rfl := Option.some.inj (gPow.symm.trans hg2)
  obtain rfl := Option.some.inj (hty.symm.trans ht2)
  have hd : DataW.trod _ Tryd.prog W 0 _ _ f2 t cs2.toList = some (Lib.tabData .u64 Lib.pow10Tab, p2) := hd2
  unfold Tab Lib.TabIs
  rw [hv2, ← Lib.cells_of_tab hu he hce hct hd]
theorem laidTrText {W : World} (h : laidMetH Tryd.prog Rows.fnExactTraceTextRow.laid W) : Tab W := by
  rw [MakeChecks.laidMetH_plain _ _ _ (by kernel_rfl)] at h
  exact tab3 h
end Go.Proofs.YtdpmpdhhjmbbcaaDoor
