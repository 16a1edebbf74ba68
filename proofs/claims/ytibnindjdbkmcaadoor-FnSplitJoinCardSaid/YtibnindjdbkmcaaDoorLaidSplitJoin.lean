/- What the world's shape gives the walk of FnSplitJoin. -/
import Derived.Test.YtibnindjdbkmcaaDoorRows
import Derived.Test.YtibnindjdbkmcaaDoorLaidSplit
namespace Go.Proofs.YtibnindjdbkmcaaDoor
open Go.RowKit

theorem envSplitJoin {W : World} (_ : laidMetH Tryd.prog Rows.fnSplitJoinRow.laid W) (hs : W.ShapedOpen Tryd.prog) : MaxL W := maxL_of hs
end Go.Proofs.YtibnindjdbkmcaaDoor
