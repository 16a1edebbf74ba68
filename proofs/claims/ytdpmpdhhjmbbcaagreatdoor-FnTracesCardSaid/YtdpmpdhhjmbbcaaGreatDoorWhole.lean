/- Blocks that are known whole; an append that tells which block it writes. -/
import Derived.Test.YtdpmpdhhjmbbcaaGreatDoorProg
import Derived.Test.YtdpmpdhhjmbbcaaGreatDoorInts
import Derived.Laws.Rows
import Derived.Laws.OwnMore
namespace Go.Proofs.YtdpmpdhhjmbbcaaGreatDoor
open Go.RowKit

/-- block g is just the cells cs, none frozen -/
def Whl (w : World) (g : Nat) (t : TypeId) (cs : Array Value) : Prop := w.heap[g]? = some (.cells cs t (0, 0))
section
variable {w w' : World} {g lo n c : Nat} {t : TypeId} {cs : Array Value} {A : Option Addr} {xs : List Int}
theorem Whl.lt (h : Whl w g t cs) : g < w.heap.size := (Array.getElem?_eq_some_iff.1 h).1
theorem Whl.cell (h : Whl w g t cs) (i : Nat) : w.cell? ⟨g, i, none⟩ = cs[i]? := cell_of_row w g i cs t (0, 0) h
theorem Whl.frozen (h : Whl w g t cs) (i : Nat) : w.frozen? ⟨g, i, none⟩ = false := by
  unfold Whl at h
  simp [World.frozen?, h]
theorem Whl.here (w : World) (t : TypeId) (cs : Array Value) : Whl (w.alloc (.cells cs t)) w.heap.size t cs := heap_alloc_new w _
theorem Whl.here' (w : World) (t : TypeId) (cs : Array Value) {g : Nat} (h : g = w.heap.size) : Whl (w.alloc (.cells cs t)) g t cs := by subst h; exact Whl.here w t cs
theorem Whl.alloc (h : Whl w g t cs) (o : Obj) : Whl (w.alloc o) g t cs := (Below.heap_alloc w o g h.lt).trans h
theorem Whl.drew (h : Whl w g t cs) : Whl w.drew g t cs := h
theorem Whl.store (h : Whl w g t cs) (i : Nat) (u : Value) : Whl (w.setCell ⟨g, i, none⟩ u) g t (cs.setIfInBounds i u) := by
  unfold Whl at h ⊢
  simp [World.setCell, Array.getElem?_modify, h]
theorem Whl.far (h : Whl w g t cs) {p : Addr} (hp : g ≠ p.block) (u : Value) : Whl (w.setCell p u) g t cs := (Below.heap_setCell w p u g hp).trans h
theorem Whl.below (h : Whl w g t cs) (hb : Below w.heap.size w w') : Whl w' g t cs := (hb.block g h.lt).trans h
/-- a row of ints lies in another block -/
theorem own_whl (h : OwnI w lo A n c xs) (hg : Whl w g t cs) (hne : t ≠ 3) : (Value.slice A n c).ownBlock ≠ some g := by
  rcases h.2 with ⟨hv, _⟩ | ⟨g', cap, cur, hv, _, hh, _⟩
  · rw [hv]; simp [Value.ownBlock]
  · rw [hv]
    intro he
    have e : g' = g := by simpa [Value.ownBlock] using he
    subst e
    unfold Whl at hg
    rw [hg] at hh
    injection hh with hh
    injection hh with _ ht
    exact hne ht
theorem Whl.kept (hg : Whl w g t cs) (hgr : w.grownBy w' (Value.slice A n c).ownBlock) (h : OwnI w lo A n c xs) (hne : t ≠ 3) : Whl w' g t cs :=
  (hgr.block g hg.lt (fun e => own_whl h hg hne e.symm)).trans hg
theorem grown_set (w : World) (p : Addr) (u : Value) : w.grownBy (w.setCell p u) (some p.block) :=
  ⟨rfl, rfl, rfl, by simp [World.setCell], fun i _ hne => Below.heap_setCell w p u i (by rintro rfl; exact hne rfl)⟩
/-- a row of ints stays when a whole block is written -/
theorem OwnI.apart (h : OwnI w lo A n c xs) (hg : Whl w g t cs) (hne : t ≠ 3) (i : Nat) (u : Value) : OwnI (w.setCell ⟨g, i, none⟩ u) lo A n c xs :=
  OwnI.kept h (grown_set w ⟨g, i, none⟩ u) (.inr (own_whl h hg hne))
end

theorem append_int2 (w : World) {ops : Array Oper} {rest : List Oper} {o : Oper} {a : Act} {Q : Exit → Act → World → Prop} (hgd : o.guard = none) (s x : Operand)
    (ho : o.op = .call { callee := .builtin .append, args := #[s, x], argTypes := #[24, 24] })
    (lo : Nat) (A : Option Addr) (n c : Nat) (xs : List Int) (hs : a.eval s = .slice A n c) (hown : OwnI w lo A n c xs) (hlo : lo ≤ w.heap.size)
    (ad : Addr) (y : Int) (hx : a.eval x = .slice (some ad) 1 1) (hc : w.cell? ad = some (.int .i64 y)) (hn : n ≤ 1000000000)
    (h : ∀ A' c' w', OwnI w' lo A' (n + 1) c' (xs ++ [y]) → w.grownBy w' (Value.slice A n c).ownBlock → wpList Tryz.prog ops Q rest (a.put o.dst (.slice A' (n + 1) c')) w') : wpList Tryz.prog ops Q (o :: rest) a w := by
  obtain ⟨i0, hi, hz0, hz1, hz2⟩ := info_parts info_int
  exact wpList_append_many w hgd s x 24 ho lo 3 i0 (.int .i64 0) 1 8 Tryz.underlying24 hi hz0 hz1 hz2 rfl (by decide) A n c (cI xs) hs hown _ (some ad) 1 1 _ hx (Reads.one hc) (cI_one [y]) (by unfold maxLen; omega) (by omega) hlo
    fun A' c' w' h2 h3 _ => h A' c' w' (by unfold OwnI cI; rw [List.map_append]; exact h2) h3
theorem step_append_int2 (w : World) {ops : Array Oper} {o : Oper} {a : Act} {K : Act → World → Prop} {Q : Exit → Act → World → Prop} {E : Prop} (hw : Region.wanted o (yielded ops a.tmps) = true) (s x : Operand)
    (ho : o.op = .call { callee := .builtin .append, args := #[s, x], argTypes := #[24, 24] })
    (lo : Nat) (A : Option Addr) (n c : Nat) (xs : List Int) (hs : a.eval s = .slice A n c) (hown : OwnI w lo A n c xs) (hlo : lo ≤ w.heap.size)
    (ad : Addr) (y : Int) (hx : a.eval x = .slice (some ad) 1 1) (hc : w.cell? ad = some (.int .i64 y)) (hn : n ≤ 1000000000)
    (h : ∀ A' c' w', OwnI w' lo A' (n + 1) c' (xs ++ [y]) → w.grownBy w' (Value.slice A n c).ownBlock → K (a.put o.dst (.slice A' (n + 1) c')) w') : if Region.wanted o (yielded ops a.tmps) = true then Oper.wp Tryz.prog o a w K Q else E := by
  obtain ⟨i0, hi, hz0, hz1, hz2⟩ := info_parts info_int
  exact step_append_many w hw s x 24 ho lo 3 i0 (.int .i64 0) 1 8 Tryz.underlying24 hi hz0 hz1 hz2 rfl (by decide) A n c (cI xs) hs hown _ (some ad) 1 1 _ hx (Reads.one hc) (cI_one [y]) (by unfold maxLen; omega) (by omega) hlo
    fun A' c' w' h2 h3 _ => h A' c' w' (by unfold OwnI cI; rw [List.map_append]; exact h2) h3
theorem step_append_ints2 (w : World) {ops : Array Oper} {o : Oper} {a : Act} {K : Act → World → Prop} {Q : Exit → Act → World → Prop} {E : Prop} (hw : Region.wanted o (yielded ops a.tmps) = true) (s x : Operand)
    (ho : o.op = .call { callee := .builtin .append, args := #[s, x], argTypes := #[24, 24] })
    (lo : Nat) (A : Option Addr) (n c : Nat) (xs : List Int) (hs : a.eval s = .slice A n c) (hown : OwnI w lo A n c xs) (hlo : lo ≤ w.heap.size)
    (L : Nat) (B : Option Addr) (m d : Nat) (ys : List Int) (hx : a.eval x = .slice B m d) (hr : RI w L B m ys) (hn : n + m ≤ 1000000000)
    (h : ∀ A' c' w', OwnI w' lo A' (n + m) c' (xs ++ ys) → w.grownBy w' (Value.slice A n c).ownBlock → K (a.put o.dst (.slice A' (n + m) c')) w') : if Region.wanted o (yielded ops a.tmps) = true then Oper.wp Tryz.prog o a w K Q else E := by
  obtain ⟨i0, hi, hz0, hz1, hz2⟩ := info_parts info_int
  exact step_append_many w hw s x 24 ho lo 3 i0 (.int .i64 0) 1 8 Tryz.underlying24 hi hz0 hz1 hz2 rfl (by decide) A n c (cI xs) hs hown L B m d (cI ys) hx hr (cI_one ys) (by unfold maxLen; omega) (by omega) hlo
    fun A' c' w' h2 h3 _ => h A' c' w' (by unfold OwnI cI; rw [List.map_append]; exact h2) h3
end Go.Proofs.YtdpmpdhhjmbbcaaGreatDoor
