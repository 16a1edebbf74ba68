/- What the walks of traces give back: a trace and a bool; two boxes. -/
import Derived.Test.YtdpmpdhhjmbbcaaGreatDoorProg
import Derived.Test.YtdpmpdhhjmbbcaaGreatDoorTxt
import Derived.Test.YtdpmpdhhjmbbcaaGreatDoorInts
namespace Go.Proofs.YtdpmpdhhjmbbcaaGreatDoor
open Go.RowKit

/-- a trace and a bool come back -/
def RetTB (w : World) (a b : Int) (ys : List Int) (ok : Bool) (e : Ending) (w' : World) : Prop := ∃ A n c, e = .returned (.tuple #[.agg #[.int .i64 a, .int .i64 b, .slice A n c], .bool ok]) ∧ OwnI w' w.heap.size A n c ys ∧ Below w.heap.size w w'
/-- two blocks of three cells, the second not frozen, as they stand behind calls -/
structure TwoBox (w : World) (g : Nat) (x y z x' y' z' : Value) : Prop where
  s0 : g < w.heap.size
  s1 : g + 1 < w.heap.size
  c0 : w.cell? ⟨g, 0, none⟩ = some x
  c1 : w.cell? ⟨g, 1, none⟩ = some y
  c2 : w.cell? ⟨g, 2, none⟩ = some z
  d0 : w.cell? ⟨g + 1, 0, none⟩ = some x'
  d1 : w.cell? ⟨g + 1, 1, none⟩ = some y'
  d2 : w.cell? ⟨g + 1, 2, none⟩ = some z'
  f0 : w.frozen? ⟨g + 1, 0, none⟩ = false
  f1 : w.frozen? ⟨g + 1, 1, none⟩ = false
  f2 : w.frozen? ⟨g + 1, 2, none⟩ = false
theorem TwoBox.here (w : World) (x y z x' y' z' : Value) (T T' : TypeId) : TwoBox ((w.alloc (.cells #[x, y, z] T)).alloc (.cells #[x', y', z'] T')) w.heap.size x y z x' y' z' :=
  ⟨by simp; omega, by simp, by simp, by simp, by simp, by simp, by simp, by simp, by simp, by simp, by simp⟩
theorem TwoBox.next {w w' : World} {g : Nat} {x y z x' y' z' : Value} (h : TwoBox w g x y z x' y' z') (hb : Below w.heap.size w w') : TwoBox w' g x y z x' y' z' :=
  ⟨Nat.lt_of_lt_of_le h.s0 hb.size, Nat.lt_of_lt_of_le h.s1 hb.size, (hb.cell (p := ⟨g, 0, none⟩) h.s0).trans h.c0, (hb.cell (p := ⟨g, 1, none⟩) h.s0).trans h.c1, (hb.cell (p := ⟨g, 2, none⟩) h.s0).trans h.c2,
   (hb.cell (p := ⟨g + 1, 0, none⟩) h.s1).trans h.d0, (hb.cell (p := ⟨g + 1, 1, none⟩) h.s1).trans h.d1, (hb.cell (p := ⟨g + 1, 2, none⟩) h.s1).trans h.d2,
   (hb.frozen (p := ⟨g + 1, 0, none⟩) h.s1).trans h.f0, (hb.frozen (p := ⟨g + 1, 1, none⟩) h.s1).trans h.f1, (hb.frozen (p := ⟨g + 1, 2, none⟩) h.s1).trans h.f2⟩
theorem below_two {w w1 : World} {o o' : Obj} (hb : Below ((w.alloc o).alloc o').heap.size ((w.alloc o).alloc o') w1) : Below w.heap.size w w1 :=
  (((Below.refl _ w).alloc (Nat.le_refl _) _).alloc (by simp) _).trans (hb.mono (by simp; omega))
theorem below_set3 {B : Nat} {w w1 : World} (h : Below B w w1) {g : Nat} (hg : B ≤ g) (x y z : Value) : Below B w (((w1.setCell ⟨g, 0, none⟩ x).setCell ⟨g, 1, none⟩ y).setCell ⟨g, 2, none⟩ z) :=
  ((h.setCell hg _).setCell hg _).setCell hg _
end Go.Proofs.YtdpmpdhhjmbbcaaGreatDoor
