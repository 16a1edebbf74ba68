/- The walks of the smallest helpers: bounds, the lesser and the greater, sizes, ticks, places. -/
import Derived.Test.YtibnindjdbkmcaaDoorProg
import Derived.Test.YtibnindjdbkmcaaDoorWords
import Derived.WalkKit
import Derived.WalkSpells
import Derived.WalkLawsBesides
import Derived.Deep.LoopGhost
import Derived.Deep.QuietTactic
import Derived.BigQuiet
import Derived.Outline
import Derived.KernelRfl
import Derived.IntWalk
namespace Go.Proofs.YtibnindjdbkmcaaDoor
open Go.RowKit

/-- lo ≤ n ≤ hi -/
def inB (n lo hi : Int) : Bool := decide (lo ≤ n) && decide (n ≤ hi)
theorem inB_iff {n lo hi : Int} : inB n lo hi = true ↔ lo ≤ n ∧ n ≤ hi := by simp [inB]
theorem inB_no {n lo hi : Int} : inB n lo hi = false ↔ ¬ (lo ≤ n ∧ n ≤ hi) := by
  rw [← inB_iff]; simp







end Go.Proofs.YtibnindjdbkmcaaDoor
