/- Words for the draws: what a cursor's step leaves, over new memory and over rows that grow; one number out of a literal. -/
import Derived.Test.YtibnindjdbkmcaaDoorProg
import Derived.Test.YtibnindjdbkmcaaDoorCur
namespace Go.Proofs.YtibnindjdbkmcaaDoor
open Go.RowKit

section
variable {w w0 w1 w2 w' : World} {g m n c b lo : Nat} {A : Option Addr} {xs : List Int} {t E : TypeId} {cs : Array Value}
theorem Cur.alloc (h : Cur w g A n c xs b) (o : Obj) : Cur (w.alloc o) g A n c xs b := h.kept ((Below.refl _ w).alloc (Nat.le_refl _) o)
theorem Cur.drew (h : Cur w g A n c xs b) : Cur w.drew g A n c xs b := h.kept ((Below.refl _ w).drew)
theorem Cur.drewN (h : Cur w g A n c xs b) (k : Nat) : Cur (w.drewN k) g A n c xs b := h.kept (below_drewN (Below.refl _ w) k)
theorem Cur.grown {row : Option Nat} (h : Cur w g A n c xs b) (hg : w.grownBy w' row) (hr : ∀ r, row = some r → g < r) : Cur w' g A n c xs b := by
  have hl := h.lt
  obtain ⟨⟨h0, h3⟩, i, s, h1, h2⟩ := h
  exact ⟨⟨h0.grown hg (Nat.le_of_lt hl) fun r e => Nat.le_of_lt (hr r e), h3⟩, i, s, h1, (hg.block g hl (fun e => by have := hr g e.symm; omega)).trans h2⟩
theorem Cur.set (h : Cur w g A n c xs b) {p : Addr} (hp : g < p.block) (u : Value) : Cur (w.setCell p u) g A n c xs b := h.grown (grown_set w p u) fun r e => by injection e with e; omega
theorem Whl.gr (h : Whl w m t cs) (hg : w.grownBy w' (some g)) (hne : g ≠ m) : Whl w' m t cs := (hg.block m h.lt (fun e => hne (Option.some.inj e).symm)).trans h
theorem grown_alloc (h : w.grownBy w' (some g)) (o : Obj) : w.grownBy (w'.alloc o) (some g) :=
  ⟨h.os, h.tape, h.output, by have := h.size; simp; omega, fun i hi hn => (Below.heap_alloc w' o i (by have := h.size; omega)).trans (h.block i hi hn)⟩
theorem grown_set' (h : w.grownBy w' (some g)) {p : Addr} (hp : w.heap.size ≤ p.block) (u : Value) : w.grownBy (w'.setCell p u) (some g) :=
  ⟨h.os, h.tape, h.output, by have := h.size; simpa [World.setCell] using this, fun i hi hn => (Below.heap_setCell w' p u i (by omega)).trans (h.block i hi hn)⟩
theorem grown_drewC {row : Option Nat} (h : w.grownBy w' row) (k : Nat) : w.grownBy (w'.drewN k) row := ⟨h.os, h.tape, h.output, h.size, h.block⟩
theorem grown_dr {row : Option Nat} (h : w.grownBy w' row) : w.grownBy w'.drew row := ⟨h.os, h.tape, h.output, h.size, h.block⟩
/-- a growth elsewhere, among what is new -/
theorem grown_into {row : Option Nat} (h : w.grownBy w1 (some g)) (h2 : w1.grownBy w2 row) (hr : ∀ r, row = some r → w.heap.size ≤ r) : w.grownBy w2 (some g) :=
  ⟨h2.os.trans h.os, h2.tape.trans h.tape, h2.output.trans h.output, Nat.le_trans h.size h2.size, fun i hi hn => (h2.block i (Nat.lt_of_lt_of_le hi h.size) (fun e => by have := hr i e.symm; omega)).trans (h.block i hi hn)⟩
/-- what only makes memory leaves the rest, the cursor's block among it -/
theorem grown_below (h : w.grownBy w1 (some g)) (h2 : Below w1.heap.size w1 w2) : w.grownBy w2 (some g) :=
  ⟨h2.os.trans h.os, h2.tape.trans h.tape, h2.output.trans h.output, Nat.le_trans h.size h2.size, fun i hi hn => (h2.block i (Nat.lt_of_lt_of_le hi h.size)).trans (h.block i hi hn)⟩
/-- where the cursor is new, what was there stays -/
theorem below_cur (h : Below w0.heap.size w0 w) (hg : w.grownBy w' (some g)) (hl : w0.heap.size ≤ g) : Below w0.heap.size w0 w' :=
  h.grown hg h.size fun r e => by injection e with e; omega
theorem OwnI.gr {ys : List Int} {B : Option Addr} {k d : Nat} (h : OwnI w lo B k d ys) (hg : w.grownBy w' (some g)) (hl : g < lo) : OwnI w' lo B k d ys := by
  refine h.kept hg ?_
  rcases hv : (Value.slice B k d).ownBlock with _ | r
  · exact .inl rfl
  · exact .inr fun e => by have := (h.lt hv).1; injection e with e; omega
end

theorem cell_on {w : World} {p : Addr} {v : Value} (h : w.cell? p = some v) (o : Obj) : (w.alloc o).cell? p = some v := (World.cell?_alloc_lt w o p (World.block_lt_of_cell? w p h)).trans h
theorem cell_dr {w : World} {p : Addr} {v : Value} (h : w.cell? p = some v) : w.drew.cell? p = some v := h
theorem new_ne_cur {w : World} {g n c b : Nat} {A : Option Addr} {xs : List Int} (h : Cur w g A n c xs b) : w.heap.size ≠ g := Nat.ne_of_gt h.lt
end Go.Proofs.YtibnindjdbkmcaaDoor
