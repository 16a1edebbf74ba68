/- What the rows' condition and the world's shape give the walks. -/
import Derived.Test.YtajngpnpcefhdaaDoorRows
import Derived.Test.YtajngpnpcefhdaaDoorLaidNum
import Derived.Test.YtajngpnpcefhdaaDoorEnv
import Derived.Test.YtajngpnpcefhdaaDoorShaped
import Derived.Shelf.Vars
namespace Go.Proofs.YtajngpnpcefhdaaDoor
open Go.RowKit

theorem maxL_of {W : World} (h : W.ShapedOpen Tryd.prog) : MaxL W :=
  cell_of_shapedOpen_int (P := Tryd.prog) (g := 0) (t := 3) (zero := #[.int .i64 0]) h (of_decide_eq_true (by kernel_rfl)) (by kernel_rfl) rfl (by kernel_rfl) (by kernel_rfl) Tryd.underlying3
theorem envVerify {W : World} (h : laidMetH Tryd.prog Rows.fnExactVerifyChecksumRow.laid W) (hs : W.ShapedOpen Tryd.prog) : Env W := ⟨laidVerify h, maxL_of hs⟩
end Go.Proofs.YtajngpnpcefhdaaDoor
