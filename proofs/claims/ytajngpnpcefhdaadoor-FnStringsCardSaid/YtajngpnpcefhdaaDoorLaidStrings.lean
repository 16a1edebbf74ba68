/- What the row's condition and the world's shape give the walk of the law of strings. -/
import Derived.Test.YtajngpnpcefhdaaDoorRows
import Derived.Test.YtajngpnpcefhdaaDoorLaidErr
namespace Go.Proofs.YtajngpnpcefhdaaDoor
open Go.RowKit

theorem envStrings {W : World} (h : laidMetH Tryd.prog Rows.fnStringsRow.laid W) (_ : W.ShapedOpen Tryd.prog) : EnvE W := by
  rw [MakeChecks.laidMetH_plain _ _ _ (by kernel_rfl)] at h
  exact ⟨tab3 h, (errs5 h).1, (errs5 h).2⟩
theorem maxStrings {W : World} (_ : laidMetH Tryd.prog Rows.fnStringsRow.laid W) (hs : W.ShapedOpen Tryd.prog) : MaxL W := maxL_of hs
end Go.Proofs.YtajngpnpcefhdaaDoor
