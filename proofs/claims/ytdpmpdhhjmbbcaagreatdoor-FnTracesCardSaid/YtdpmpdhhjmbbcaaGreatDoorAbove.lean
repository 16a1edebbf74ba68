/- Regions that draw their order and whose callees make new memory and leave the old as it was: one walk in the order of the text: the class of worlds 'what was there stays as it was'. -/
import Derived.Test.YtdpmpdhhjmbbcaaGreatDoorWords
import Derived.BigQuiet
import Derived.Deep.RegionHeld3
import Derived.Deep.RegionWith
namespace Go.Proofs.YtdpmpdhhjmbbcaaGreatDoor
open Go.RowKit

/-- a world in which what W had stands as it was -/
structure Abv (W : World) where
  w : World
  h : Below W.heap.size W w

instance (W : World) : Nonempty (Abv W) := ⟨⟨W, Below.refl _ _⟩⟩

theorem wp_region_abv {P : Program} {id : Nat} {Q : Exit → Act → World → Prop} {a : Act} {w : World} {l : List Oper} (W : World) (hm : P.follows .mixedOrders = true) (hB : Region.lexB .any l.toArray = true)
    (hC : Below W.heap.size W w) (h : wpQuiet P l.toArray (fun w' => ∃ s : Abv W, w' = s.w) (fun a' => ∀ w', (∃ s : Abv W, w' = s.w) → Q .normal a' w') l a) : (Code.region id l.toArray true).wp P Q a w :=
  wp_region_quiet (C := fun w' => ∃ s : Abv W, w' = s.w) hm hB ⟨⟨_, hC.drew⟩, rfl⟩ (by simpa using h)

/-- a callee that leaves what was there -/
theorem Calls.abv {P : Program} {f : FuncId} {args : Array Value} {W : World} {s : Abv W} {v : Value}
    (h : Calls P f args s.w fun e w' => e = .returned v ∧ Below s.w.heap.size s.w w') : Calls P f args s.w fun e w'' => e = .returned v ∧ ∃ s' : Abv W, w'' = s'.w :=
  h.mono fun _ w' ⟨he, hb⟩ => ⟨he, ⟨w', s.h.trans (hb.mono s.h.size)⟩, rfl⟩
/-- .. that leaves the world -/
theorem Calls.abv_same {P : Program} {f : FuncId} {args : Array Value} {W : World} {s : Abv W} {v : Value}
    (h : Calls P f args s.w fun e w' => e = .returned v ∧ s.w = w') : Calls P f args s.w fun e w'' => e = .returned v ∧ ∃ s' : Abv W, w'' = s'.w :=
  h.mono fun _ w' ⟨he, hb⟩ => ⟨he, s, hb.symm⟩
theorem Abv.cell {W : World} {p : Addr} {v : Value} (hp : p.block < W.heap.size) (hc : W.cell? p = some v) (s : Abv W) : s.w.cell? p = some v := (s.h.cell hp).trans hc
theorem RI.abv {W : World} {A : Option Addr} {n : Nat} {xs : List Int} (h : RI W W.heap.size A n xs) (s : Abv W) : RI s.w s.w.heap.size A n xs := (h.below s.h).more s.h.size
end Go.Proofs.YtdpmpdhhjmbbcaaGreatDoor
