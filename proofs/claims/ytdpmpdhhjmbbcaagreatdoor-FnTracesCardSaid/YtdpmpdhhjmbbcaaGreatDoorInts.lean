/- The walks of the four helpers of the laws on slices of ints: a copy, equality, marks written, marks held. -/
import Derived.Test.YtdpmpdhhjmbbcaaGreatDoorProg
import Derived.Test.YtdpmpdhhjmbbcaaGreatDoorWords
import Derived.WalkKit
import Derived.WalkSpells
import Derived.WalkLawsBesides
import Derived.Deep.LoopGhost
import Derived.Deep.QuietTactic
import Derived.BigQuiet
import Derived.Outline
import Derived.KernelRfl
namespace Go.Proofs.YtdpmpdhhjmbbcaaGreatDoor
open Go.RowKit

theorem info_int : (Tryz.prog.info? 3).map (fun i => (i.zero, i.size, i.bytes)) = some (some (.int .i64 0), 1, 8) := by kernel_rfl

/-- 'out = append(out, y)' at a fresh slice of ints, y in the new cell that the walk has laid -/
theorem append_int (w : World) {ops : Array Oper} {rest : List Oper} {o : Oper} {a : Act} {Q : Exit → Act → World → Prop} (hgd : o.guard = none) (s x : Operand)
    (ho : o.op = .call { callee := .builtin .append, args := #[s, x], argTypes := #[24, 24] })
    (w0 : World) (A : Option Addr) (n c : Nat) (xs : List Int) (hs : a.eval s = .slice A n c) (hown : OwnI w w0.heap.size A n c xs) (hb : Below w0.heap.size w0 w)
    (ad : Addr) (y : Int) (hx : a.eval x = .slice (some ad) 1 1) (hc : w.cell? ad = some (.int .i64 y)) (hn : n ≤ 1000000000)
    (h : ∀ A' c' w', OwnI w' w0.heap.size A' (n + 1) c' (xs ++ [y]) → Below w0.heap.size w0 w' → wpList Tryz.prog ops Q rest (a.put o.dst (.slice A' (n + 1) c')) w') : wpList Tryz.prog ops Q (o :: rest) a w := by
  obtain ⟨i0, hi, hz0, hz1, hz2⟩ := info_parts info_int
  exact wpList_append_many w hgd s x 24 ho w0.heap.size 3 i0 (.int .i64 0) 1 8 Tryz.underlying24 hi hz0 hz1 hz2 rfl (by decide) A n c (cI xs) hs hown _ (some ad) 1 1 _ hx (Reads.one hc) (cI_one [y]) (by unfold maxLen; omega) (by omega) hb.size
    fun A' c' w' h2 h3 _ => h A' c' w' (by unfold OwnI cI; rw [List.map_append]; exact h2) (hown.grow hb (Nat.le_refl _) hb.size h3)

/-- the same at a step of a region that draws its order -/
theorem step_append_int (w : World) {ops : Array Oper} {o : Oper} {a : Act} {K : Act → World → Prop} {Q : Exit → Act → World → Prop} {E : Prop} (hw : Region.wanted o (yielded ops a.tmps) = true) (s x : Operand)
    (ho : o.op = .call { callee := .builtin .append, args := #[s, x], argTypes := #[24, 24] })
    (w0 : World) (A : Option Addr) (n c : Nat) (xs : List Int) (hs : a.eval s = .slice A n c) (hown : OwnI w w0.heap.size A n c xs) (hb : Below w0.heap.size w0 w)
    (ad : Addr) (y : Int) (hx : a.eval x = .slice (some ad) 1 1) (hc : w.cell? ad = some (.int .i64 y)) (hn : n ≤ 1000000000)
    (h : ∀ A' c' w', OwnI w' w0.heap.size A' (n + 1) c' (xs ++ [y]) → Below w0.heap.size w0 w' → K (a.put o.dst (.slice A' (n + 1) c')) w') : if Region.wanted o (yielded ops a.tmps) = true then Oper.wp Tryz.prog o a w K Q else E := by
  obtain ⟨i0, hi, hz0, hz1, hz2⟩ := info_parts info_int
  exact step_append_many w hw s x 24 ho w0.heap.size 3 i0 (.int .i64 0) 1 8 Tryz.underlying24 hi hz0 hz1 hz2 rfl (by decide) A n c (cI xs) hs hown _ (some ad) 1 1 _ hx (Reads.one hc) (cI_one [y]) (by unfold maxLen; omega) (by omega) hb.size
    fun A' c' w' h2 h3 _ => h A' c' w' (by unfold OwnI cI; rw [List.map_append]; exact h2) (hown.grow hb (Nat.le_refl _) hb.size h3)

/-- 'out = append(out, more...)' at a fresh slice of ints -/
theorem append_ints (w : World) {ops : Array Oper} {rest : List Oper} {o : Oper} {a : Act} {Q : Exit → Act → World → Prop} (hgd : o.guard = none) (s x : Operand)
    (ho : o.op = .call { callee := .builtin .append, args := #[s, x], argTypes := #[24, 24] })
    (w0 : World) (A : Option Addr) (n c : Nat) (xs : List Int) (hs : a.eval s = .slice A n c) (hown : OwnI w w0.heap.size A n c xs) (hb : Below w0.heap.size w0 w)
    (B : Option Addr) (m c2 L : Nat) (ys : List Int) (hx : a.eval x = .slice B m c2) (hr : RI w L B m ys) (hn : n + m ≤ 1000000000)
    (h : ∀ A' c' w', OwnI w' w0.heap.size A' (n + m) c' (xs ++ ys) → Below w0.heap.size w0 w' → w.grownBy w' (Value.slice A n c).ownBlock → ((Value.slice A' (n + m) c').ownBlock = (Value.slice A n c).ownBlock ∨ (Value.slice A' (n + m) c').ownBlock = some w.heap.size) → wpList Tryz.prog ops Q rest (a.put o.dst (.slice A' (n + m) c')) w') : wpList Tryz.prog ops Q (o :: rest) a w := by
  obtain ⟨i0, hi, hz0, hz1, hz2⟩ := info_parts info_int
  exact wpList_append_many w hgd s x 24 ho w0.heap.size 3 i0 (.int .i64 0) 1 8 Tryz.underlying24 hi hz0 hz1 hz2 rfl (by decide) A n c (cI xs) hs hown L B m c2 (cI ys) hx hr (cI_one ys) (by unfold maxLen; omega) (by omega) hb.size
    fun A' c' w' h2 h3 h4 => h A' c' w' (by unfold OwnI cI; rw [List.map_append]; exact h2) (hown.grow hb (Nat.le_refl _) hb.size h3) h3 h4

/-- A fresh slice of the numbers ys comes back; what was there stays. -/
def RetI (w : World) (ys : List Int) (e : Ending) (w' : World) : Prop := ∃ A n c, e = .returned (.slice A n c) ∧ OwnI w' w.heap.size A n c ys ∧ Below w.heap.size w w'

/-- The same beside a bool. -/
def RetIB (w : World) (ys : List Int) (b : Bool) (e : Ending) (w' : World) : Prop := ∃ A n c, e = .returned (.tuple #[.slice A n c, .bool b]) ∧ OwnI w' w.heap.size A n c ys ∧ Below w.heap.size w w'

theorem copy_step (xs : List Int) (n k : Nat) (hl : xs.length = n) (hk : k < n) : (xs.take k ++ List.replicate (n - k) (0 : Int)).set k (xs.getD k 0) = xs.take (k + 1) ++ List.replicate (n - (k + 1)) 0 := by
  have e : n - k = (n - (k + 1)) + 1 := by omega
  rw [List.set_append_right _ _ (by simp; omega), e, List.replicate_succ]
  have e2 : k - (List.take k xs).length = 0 := by simp; omega
  rw [e2]
  have hx : xs.getD k 0 = xs[k]'(by omega) := by simp [List.getElem?_eq_getElem (show k < xs.length by omega)]
  rw [hx, List.set_cons_zero, List.take_succ_eq_append_getElem (by omega), List.append_assoc]
  rfl


/-- The n numbers from k on. -/
def marks (k : Int) (n : Nat) : List Int := (List.range n).map fun (i : Nat) => k + (i : Int)
theorem marks_get (k : Int) (n i : Nat) (h : i < n) : (marks k n)[i]? = some (k + (i : Int)) := by simp [marks, h]
theorem marks_len (k : Int) (n : Nat) : (marks k n).length = n := by simp [marks]
theorem mark_step (k : Int) (xs : List Int) (n i : Nat) (hl : xs.length = n) (hi : i < n) : (marks k i ++ xs.drop i).set i (k + (i : Int)) = marks k (i + 1) ++ xs.drop (i + 1) := by
  rw [List.set_append_right _ _ (by rw [marks_len]; omega), marks_len, Nat.sub_self, List.drop_eq_getElem_cons (by omega), List.set_cons_zero]
  simp [marks, List.range_succ]


end Go.Proofs.YtdpmpdhhjmbbcaaGreatDoor
