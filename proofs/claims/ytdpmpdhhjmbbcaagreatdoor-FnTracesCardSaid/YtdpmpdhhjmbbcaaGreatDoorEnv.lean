/- What the walks take of the library's variables: the table of powers, the longest needle, the two errors. -/
import Derived.Test.YtdpmpdhhjmbbcaaGreatDoorProg
import Derived.Test.YtdpmpdhhjmbbcaaGreatDoorNum
namespace Go.Proofs.YtdpmpdhhjmbbcaaGreatDoor
open Go.RowKit

/-- the variable holds some number -/
def MaxL (w : World) : Prop := ∃ m, w.cell? ⟨0, 0, none⟩ = some (.int .i64 m)
theorem MaxL.stays {w w' : World} (h : MaxL w) (hb : Below w.heap.size w w') : MaxL w' := by
  obtain ⟨m, hm⟩ := h
  exact ⟨m, (hb.cell (p := ⟨_, 0, none⟩) (World.block_lt_of_cell? w _ hm)).trans hm⟩
structure Env (w : World) : Prop where
  tab : Tab w
  ml : MaxL w
theorem Env.stays {w w' : World} (h : Env w) (hb : Below w.heap.size w w') : Env w' := ⟨h.tab.stays hb, h.ml.stays hb⟩
end Go.Proofs.YtdpmpdhhjmbbcaaGreatDoor
