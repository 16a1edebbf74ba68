/- Chapter 2, the walks: the sample at a tick: the program's and the reference's. -/
import Derived.Test.YtdpmpdhhjmbbcaaGreatDoorProg
import Derived.Test.YtdpmpdhhjmbbcaaGreatDoorTraceA
import Derived.Test.YtdpmpdhhjmbbcaaGreatDoorRets
import Derived.Test.YtdpmpdhhjmbbcaaGreatDoorAbove
import Derived.Deep.RegionHeld3
import Derived.Deep.RegionWith
namespace Go.Proofs.YtdpmpdhhjmbbcaaGreatDoor
open Go.RowKit

/-- a block of three cells, as it stands behind calls -/
theorem box3_new {w w1 : World} {x y z : Value} {T : TypeId} (hb : Below (w.alloc (.cells #[x, y, z] T)).heap.size (w.alloc (.cells #[x, y, z] T)) w1) :
    w.heap.size < w1.heap.size ∧ w1.cell? ⟨w.heap.size, 0, none⟩ = some x ∧ w1.cell? ⟨w.heap.size, 1, none⟩ = some y ∧ w1.cell? ⟨w.heap.size, 2, none⟩ = some z :=
  ⟨by have := hb.size; simp at this; omega, (hb.cell (p := ⟨w.heap.size, 0, none⟩) (by simp)).trans (by simp), (hb.cell (p := ⟨w.heap.size, 1, none⟩) (by simp)).trans (by simp), (hb.cell (p := ⟨w.heap.size, 2, none⟩) (by simp)).trans (by simp)⟩
theorem box3_next {g : Nat} {w1 w2 : World} {x y z : Value} (h : g < w1.heap.size ∧ w1.cell? ⟨g, 0, none⟩ = some x ∧ w1.cell? ⟨g, 1, none⟩ = some y ∧ w1.cell? ⟨g, 2, none⟩ = some z) (hb : Below w1.heap.size w1 w2) :
    g < w2.heap.size ∧ w2.cell? ⟨g, 0, none⟩ = some x ∧ w2.cell? ⟨g, 1, none⟩ = some y ∧ w2.cell? ⟨g, 2, none⟩ = some z :=
  ⟨Nat.lt_of_lt_of_le h.1 hb.size, (hb.cell (p := ⟨g, 0, none⟩) h.1).trans h.2.1, (hb.cell (p := ⟨g, 1, none⟩) h.1).trans h.2.2.1, (hb.cell (p := ⟨g, 2, none⟩) h.1).trans h.2.2.2⟩
theorem undrew {w w1 : World} (h : Below w.drew.heap.size w.drew w1) : Below w.heap.size w w1 := ⟨h.os, h.tape, h.output, h.size, h.block⟩
theorem getD_of {xs : List Int} {k : Nat} {x : Int} (hx : xs[k]? = some x) : xs.getD k 0 = x := by rw [List.getD_eq_getElem?_getD, hx]; rfl

theorem l2Has_any (st sa : Int) (A : Option Addr) (n c : Nat) (t : Int) (w : World) (h0 : 0 ≤ sa) (h1 : sa ≤ 1000000) (hn : n ≤ 1048576) :
    Calls Tryz.prog 41 #[.agg #[.int .i64 st, .int .i64 sa, .slice A n c], .int .i64 t] w fun e w' => e = .returned (.bool (inB t sa (sa + n - 1))) ∧ Below w.heap.size w w' := by
  go_enter Tryz.func41, Tryz.ntmps41
  go_wp2_with (go_at_call 49; refine (l1In_any _ _ _ _).mono ?_; rintro e w' ⟨rfl, rfl⟩)
  go_ret
  exact ⟨rfl, (Below.refl _ _).alloc (Nat.le_refl _) _⟩

/-- the trace is valid and has a sample at the tick -/
def atB (st sa : Int) (xs : List Int) (t : Int) : Bool := goodB st sa xs && inB t sa (sa + xs.length - 1)


end Go.Proofs.YtdpmpdhhjmbbcaaGreatDoor
