/- What the world's shape gives the walks. -/
import Derived.Test.YtibnindjdbkmcaaDoorRows
import Derived.Test.YtibnindjdbkmcaaDoorSplitB
import Derived.Test.YtibnindjdbkmcaaDoorShaped
import Derived.Shelf.Vars
namespace Go.Proofs.YtibnindjdbkmcaaDoor
open Go.RowKit

theorem maxL_of {W : World} (h : W.ShapedOpen Tryd.prog) : MaxL W :=
  cell_of_shapedOpen_int (P := Tryd.prog) (g := 0) (t := 3) (zero := #[.int .i64 0]) h (of_decide_eq_true (by kernel_rfl)) (by kernel_rfl) rfl (by kernel_rfl) (by kernel_rfl) Tryd.underlying3
theorem envSplit {W : World} (_ : laidMetH Tryd.prog Rows.fnExactSplitStringRow.laid W) (hs : W.ShapedOpen Tryd.prog) : MaxL W := maxL_of hs
end Go.Proofs.YtibnindjdbkmcaaDoor
