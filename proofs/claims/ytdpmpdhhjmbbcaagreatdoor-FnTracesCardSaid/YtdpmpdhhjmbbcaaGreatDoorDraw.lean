/- Words for the draws: what a cursor's step leaves, over new memory and over rows that grow; one number out of a literal. -/
import Derived.Test.YtdpmpdhhjmbbcaaGreatDoorProg
import Derived.Test.YtdpmpdhhjmbbcaaGreatDoorCur
namespace Go.Proofs.YtdpmpdhhjmbbcaaGreatDoor
open Go.RowKit

section
variable {w w0 w1 w2 w' : World} {g m n c b lo : Nat} {A : Option Addr} {xs : List Int} {t E : TypeId} {cs : Array Value}
theorem Cur.alloc (h : Cur w g A n c xs b) (o : Obj) : Cur (w.alloc o) g A n c xs b := h.kept ((Below.refl _ w).alloc (Nat.le_refl _) o)
theorem Cur.drew (h : Cur w g A n c xs b) : Cur w.drew g A n c xs b := h.kept ((Below.refl _ w).drew)
theorem Cur.drewN (h : Cur w g A n c xs b) (k : Nat) : Cur (w.drewN k) g A n c xs b := h.kept (below_drewN (Below.refl _ w) k)
theorem Cur.grown {row : Option Nat} (h : Cur w g A n c xs b) (hg : w.grownBy w' row) (hr : ∀ r, row = some r → g < r) : Cur w' g A n c xs b := by
  have hl := h.lt
  obtain ⟨⟨h0, h3⟩, i, s, h1, h2⟩ := h
  exact ⟨⟨h0.grown hg (Nat.le_of_lt hl) fun r e => Nat.le_of_lt (hr r e), h3⟩, i, s, h1, (hg.block g hl (fun e => by have := hr g e.symm; omega)).trans h2⟩
theorem Cur.set (h : Cur w g A n c xs b) {p : Addr} (hp : g < p.block) (u : Value) : Cur (w.setCell p u) g A n c xs b := h.grown (grown_set w p u) fun r e => by injection e with e; omega
theorem Whl.gr (h : Whl w m t cs) (hg : w.grownBy w' (some g)) (hne : g ≠ m) : Whl w' m t cs := (hg.block m h.lt (fun e => hne (Option.some.inj e).symm)).trans h
theorem grown_alloc (h : w.grownBy w' (some g)) (o : Obj) : w.grownBy (w'.alloc o) (some g) :=
  ⟨h.os, h.tape, h.output, by have := h.size; simp; omega, fun i hi hn => (Below.heap_alloc w' o i (by have := h.size; omega)).trans (h.block i hi hn)⟩
theorem grown_set' (h : w.grownBy w' (some g)) {p : Addr} (hp : w.heap.size ≤ p.block) (u : Value) : w.grownBy (w'.setCell p u) (some g) :=
  ⟨h.os, h.tape, h.output, by have := h.size; simpa [World.setCell] using this, fun i hi hn => (Below.heap_setCell w' p u i (by omega)).trans (h.block i hi hn)⟩
theorem grown_drewC {row : Option Nat} (h : w.grownBy w' row) (k : Nat) : w.grownBy (w'.drewN k) row := ⟨h.os, h.tape, h.output, h.size, h.block⟩
theorem grown_dr {row : Option Nat} (h : w.grownBy w' row) : w.grownBy w'.drew row := ⟨h.os, h.tape, h.output, h.size, h.block⟩
/-- a growth elsewhere, among what is new -/
theorem grown_into {row : Option Nat} (h : w.grownBy w1 (some g)) (h2 : w1.grownBy w2 row) (hr : ∀ r, row = some r → w.heap.size ≤ r) : w.grownBy w2 (some g) :=
  ⟨h2.os.trans h.os, h2.tape.trans h.tape, h2.output.trans h.output, Nat.le_trans h.size h2.size, fun i hi hn => (h2.block i (Nat.lt_of_lt_of_le hi h.size) (fun e => by have := hr i e.symm; omega)).trans (h.block i hi hn)⟩
/-- what only makes memory leaves the rest, the cursor's block among it -/
theorem grown_below (h : w.grownBy w1 (some g)) (h2 : Below w1.heap.size w1 w2) : w.grownBy w2 (some g) :=
  ⟨h2.os.trans h.os, h2.tape.trans h.tape, h2.output.trans h.output, Nat.le_trans h.size h2.size, fun i hi hn => (h2.block i (Nat.lt_of_lt_of_le hi h.size)).trans (h.block i hi hn)⟩
/-- where the cursor is new, what was there stays -/
theorem below_cur (h : Below w0.heap.size w0 w) (hg : w.grownBy w' (some g)) (hl : w0.heap.size ≤ g) : Below w0.heap.size w0 w' :=
  h.grown hg h.size fun r e => by injection e with e; omega
theorem OwnI.gr {ys : List Int} {B : Option Addr} {k d : Nat} (h : OwnI w lo B k d ys) (hg : w.grownBy w' (some g)) (hl : g < lo) : OwnI w' lo B k d ys := by
  refine h.kept hg ?_
  rcases hv : (Value.slice B k d).ownBlock with _ | r
  · exact .inl rfl
  · exact .inr fun e => by have := (h.lt hv).1; injection e with e; omega
end

theorem cell_on {w : World} {p : Addr} {v : Value} (h : w.cell? p = some v) (o : Obj) : (w.alloc o).cell? p = some v := (World.cell?_alloc_lt w o p (World.block_lt_of_cell? w p h)).trans h
theorem cell_dr {w : World} {p : Addr} {v : Value} (h : w.cell? p = some v) : w.drew.cell? p = some v := h
/-- one of the numbers of a literal -/
theorem among_lit (g n c b gl : Nat) (A : Option Addr) (xs : List Int) (w : World) (hq : gl = w.heap.size) (ys : List Int) (m : Nat) (cs : Array Value) (P : Int → Prop) (hc : cs = (cI ys).toArray) (hm : ys.length = m) (h1 : 1 ≤ m) (h2 : m ≤ 1000) (hP : ∀ y ∈ ys, P y)
    (h : Cur w g A n c xs b) (hn : n ≤ 1048576) (hb : b ≤ 4611686018427387900) :
    Calls Tryz.prog 44 #[.pointer (some ⟨g, 0, none⟩), .slice (some ⟨gl, 0, none⟩) m m] (w.alloc (.cells cs 3)) (RetC w g A n c xs (b + 2) P) := by
  subst hq
  have hr : RI (w.alloc (.cells cs 3)) (w.alloc (.cells cs 3)).heap.size (some ⟨w.heap.size, 0, none⟩) m ys := by
    refine ⟨by rw [cI_length, hm]; omega, fun _ => ⟨_, rfl, by simp, fun j u hu => ?_⟩⟩
    have e : (⟨w.heap.size, 0, none⟩ : Addr).add j = ⟨w.heap.size, j, none⟩ := by simp [Addr.add]; omega
    rw [e, (Whl.here w 3 cs).cell j, hc]
    simpa using hu
  refine (among_any g n c b A xs (some ⟨w.heap.size, 0, none⟩) m m ys _ (h.alloc _) hn hb hr (fun a e => by injection e with e; subst e; exact Nat.ne_of_gt h.lt) h1 (by omega)).mono ?_
  rintro e w' ⟨x, rfl, hx, hC, hg⟩
  exact ⟨x, rfl, hP x hx, hC, grownBy_trans (grown_alloc (World.grownBy.refl w _) _) hg⟩
/-- the same, the literal's block known whole in whatever world -/
theorem among_at (g n c b gl : Nat) (A : Option Addr) (xs : List Int) (w : World) (ys : List Int) (m : Nat) (P : Int → Prop) (hl : Whl w gl 3 (cI ys).toArray) (hne : gl ≠ g) (hm : ys.length = m) (h1 : 1 ≤ m) (h2 : m ≤ 1000) (hP : ∀ y ∈ ys, P y)
    (h : Cur w g A n c xs b) (hn : n ≤ 1048576) (hb : b ≤ 4611686018427387900) :
    Calls Tryz.prog 44 #[.pointer (some ⟨g, 0, none⟩), .slice (some ⟨gl, 0, none⟩) m m] w (RetC w g A n c xs (b + 2) P) := by
  have hr : RI w w.heap.size (some ⟨gl, 0, none⟩) m ys := by
    refine ⟨by rw [cI_length, hm]; omega, fun _ => ⟨_, rfl, hl.lt, fun j u hu => ?_⟩⟩
    have e : (⟨gl, 0, none⟩ : Addr).add j = ⟨gl, j, none⟩ := by simp [Addr.add]; omega
    rw [e, hl.cell j]
    simpa using hu
  refine (among_any g n c b A xs (some ⟨gl, 0, none⟩) m m ys w h hn hb hr (fun a e => by injection e with e; subst e; exact hne) h1 (by omega)).mono ?_
  rintro e w' ⟨x, rfl, hx, hC, hg⟩
  exact ⟨x, rfl, hP x hx, hC, hg⟩
/-- one of the first m numbers of a literal whose block is known whole -/
theorem among_some (g n c b gl : Nat) (A : Option Addr) (xs : List Int) (w : World) (ys : List Int) (m d : Nat) (hl : Whl w gl 3 (cI ys).toArray) (hne : gl ≠ g) (h1 : 1 ≤ m) (h2 : m ≤ ys.length) (h3 : ys.length ≤ 1000)
    (h : Cur w g A n c xs b) (hn : n ≤ 1048576) (hb : b ≤ 4611686018427387900) :
    Calls Tryz.prog 44 #[.pointer (some ⟨g, 0, none⟩), .slice (some ⟨gl, 0, none⟩) m d] w (RetC w g A n c xs (b + 2) fun x => x ∈ ys) := by
  have hr : RI w w.heap.size (some ⟨gl, 0, none⟩) m (ys.take m) := by
    refine ⟨by rw [cI_length, List.length_take]; omega, fun _ => ⟨_, rfl, hl.lt, fun j u hu => ?_⟩⟩
    have e : (⟨gl, 0, none⟩ : Addr).add j = ⟨gl, j, none⟩ := by simp [Addr.add]; omega
    have hj : j < m := by
      have := (List.getElem?_eq_some_iff.1 hu).1
      rw [cI_length, List.length_take] at this
      omega
    rw [e, hl.cell j]
    unfold cI at hu ⊢
    rw [List.map_take, List.getElem?_take, if_pos hj] at hu
    simpa using hu
  refine (among_any g n c b A xs (some ⟨gl, 0, none⟩) m d (ys.take m) w h hn hb hr (fun a e => by injection e with e; subst e; exact hne) h1 (by omega)).mono ?_
  rintro e w' ⟨x, rfl, hx, hC, hg⟩
  exact ⟨x, rfl, List.mem_of_mem_take hx, hC, hg⟩
theorem new_ne_cur {w : World} {g n c b : Nat} {A : Option Addr} {xs : List Int} (h : Cur w g A n c xs b) : w.heap.size ≠ g := Nat.ne_of_gt h.lt
end Go.Proofs.YtdpmpdhhjmbbcaaGreatDoor
