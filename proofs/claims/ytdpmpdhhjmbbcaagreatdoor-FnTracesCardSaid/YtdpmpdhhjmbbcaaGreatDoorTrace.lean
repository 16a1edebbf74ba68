/- The walks of the laws' helpers on traces: a copy, the size, equality, marks. -/
import Derived.Test.YtdpmpdhhjmbbcaaGreatDoorProg
import Derived.Test.YtdpmpdhhjmbbcaaGreatDoorPreds
namespace Go.Proofs.YtdpmpdhhjmbbcaaGreatDoor
open Go.RowKit

/-- a trace as a value -/
def tv (a b : Int) (A : Option Addr) (n c : Nat) : Value := .agg #[.int .i64 a, .int .i64 b, .slice A n c]
/-- A trace with fresh samples ys comes back. -/
def RetTr (w : World) (a b : Int) (ys : List Int) (e : Ending) (w' : World) : Prop := ∃ A n c, e = .returned (.agg #[.int .i64 a, .int .i64 b, .slice A n c]) ∧ OwnI w' w.heap.size A n c ys ∧ Below w.heap.size w w'


/-- what is left of a size -/
def szI (left : Int) (n : Nat) : Int := if left - n < 0 then -1 else left - n




end Go.Proofs.YtdpmpdhhjmbbcaaGreatDoor
