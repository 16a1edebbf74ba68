/- Slices of strings: how they read, what the laws' helpers on them do. -/
import Derived.Test.YtdpmpdhhjmbbcaaGreatDoorProg
import Derived.Test.YtdpmpdhhjmbbcaaGreatDoorBase
namespace Go.Proofs.YtdpmpdhhjmbbcaaGreatDoor
open Go.RowKit

def cT (xs : List ByteArray) : List Value := xs.map Value.string
theorem cT_length (xs : List ByteArray) : (cT xs).length = xs.length := by simp [cT]
theorem cT_get (xs : List ByteArray) (k : Nat) : (cT xs)[k]? = xs[k]?.map Value.string := by simp [cT]
theorem cT_one (xs : List ByteArray) : ∀ u ∈ cT xs, u.oneCell' = true := by
  intro u hu
  unfold cT at hu
  obtain ⟨x, _, rfl⟩ := List.mem_map.1 hu
  rfl
/-- The slice value '.slice A n c' reads as the strings xs and lies below block B. -/
def RT (w : World) (B : Nat) (A : Option Addr) (n : Nat) (xs : List ByteArray) : Prop := Reads w B 1 A n (cT xs)
/-- The slice value '.slice A n c' reads as the strings xs and lies, not frozen, in one of the blocks from lo on. -/
def OwnT (w : World) (lo : Nat) (A : Option Addr) (n c : Nat) (xs : List ByteArray) : Prop := w.ownsRow lo 9 1 (.slice A n c) n (cT xs)
section
variable {w w' : World} {B B' lo lo' hi n c : Nat} {A : Option Addr} {xs : List ByteArray}
theorem RT.len (h : RT w B A n xs) : xs.length = n := by have := h.1; rw [cT_length] at this; omega
theorem RT.get {k : Nat} (h : RT w B A n xs) (hk : k < n) : ∃ ad x, A = some ad ∧ ad.block < B ∧ Hid (xs[k]? = some x) ∧ w.cell? (ad.add k) = some (.string x) := by
  obtain ⟨ad, u, e, hb, hx, hc⟩ := Reads.at_ h hk
  have hl : k < xs.length := by rw [h.len]; exact hk
  refine ⟨ad, xs[k], e, hb, List.getElem?_eq_getElem hl, ?_⟩
  rw [hc, ← hx, cT_get]
  simp [hl]
theorem RT.below (h : RT w B A n xs) (hb : Below B w w') : RT w' B A n xs := Reads.below h hb
theorem RT.more (h : RT w B A n xs) (hB : B ≤ B') : RT w B' A n xs := Reads.more h hB
theorem RT.alloc (h : RT w B A n xs) (hB : B ≤ w.heap.size) (o : Obj) : RT (w.alloc o) B A n xs := Reads.alloc h hB o
theorem OwnT.len (h : OwnT w lo A n c xs) : xs.length = n := by have := h.1; rw [cT_length] at this; omega
theorem OwnT.rt (h : OwnT w lo A n c xs) : RT w w.heap.size A n xs := Reads.of_own h
theorem OwnT.alloc (h : OwnT w lo A n c xs) (o : Obj) : OwnT (w.alloc o) lo A n c xs := World.ownsRow.alloc h o
theorem OwnT.lt (h : OwnT w lo A n c xs) {g : Nat} (hg : (Value.slice A n c).ownBlock = some g) : lo ≤ g ∧ g < w.heap.size := World.ownsRow.lt h g hg
theorem OwnT.below (h : OwnT w lo A n c xs) (hb : Below B w w') (hB : w.heap.size ≤ B) : OwnT w' lo A n c xs := by
  refine ⟨h.1, ?_⟩
  rcases h.2 with hn | ⟨g, cap, cur, hv, hg, hh, rest⟩
  · exact .inl hn
  · have hlt : g < w.heap.size := (Array.getElem?_eq_some_iff.1 hh).1
    exact .inr ⟨g, cap, cur, hv, hg, (hb.block g (by omega)).trans hh, rest⟩
theorem OwnT.less (h : OwnT w lo A n c xs) (hl : lo' ≤ lo) : OwnT w lo' A n c xs := by
  refine ⟨h.1, ?_⟩
  rcases h.2 with hn | ⟨g, cap, cur, hv, hg, rest⟩
  · exact .inl hn
  · exact .inr ⟨g, cap, cur, hv, by omega, rest⟩
theorem OwnT.nil (w : World) (lo : Nat) : OwnT w lo none 0 0 [] := World.ownsRow_nil _ _ _ _
theorem OwnT.form (h : OwnT w lo A n c xs) (hn : 0 < n) : ∃ g, A = some ⟨g, 0, none⟩ ∧ lo ≤ g ∧ g < w.heap.size ∧ n ≤ c := by
  rcases h.2 with ⟨_, h0⟩ | ⟨g, cap, cur, hv, hg, hh, hle, _⟩
  · omega
  · injection hv with h1 _ h3
    exact ⟨g, h1, hg, (Array.getElem?_eq_some_iff.1 hh).1, by omega⟩
theorem OwnT.empty (w : World) (hl : lo ≤ w.heap.size) : OwnT (w.alloc (.cells #[] 9)) lo (some ⟨w.heap.size, 0, none⟩) 0 0 [] :=
  World.ownsRow_lit w #[] 0 hl (Nat.zero_le _) rfl
theorem OwnT.grow {B : Nat} {w0 : World} (h : OwnT w lo A n c xs) (hb : Below B w0 w) (hB : B ≤ lo) (hs : B ≤ w.heap.size) (hg : w.grownBy w' (Value.slice A n c).ownBlock) : Below B w0 w' :=
  hb.grown hg hs fun k hk => by have := (OwnT.lt h hk).1; omega
theorem OwnT.max (h : OwnT w lo A n c xs) : n ≤ 9223372036854775807 := by
  rcases h.2 with ⟨hv, h0⟩ | ⟨g, cap, cur, hv, hg, hh, hle, hm, _⟩
  · omega
  · unfold maxLen at hm
    omega
/-- a store at place k of the row -/
theorem OwnT.store (h : OwnT w lo A n c xs) {k : Nat} (hk : k < n) (x : ByteArray) : ∃ g y, A = some ⟨g, 0, none⟩ ∧ lo ≤ g ∧ g < w.heap.size ∧
    w.cell? ⟨g, k, none⟩ = some (.string y) ∧ w.frozen? ⟨g, k, none⟩ = false ∧ OwnT (w.setCell ⟨g, k, none⟩ (.string x)) lo A n c (xs.set k x) ∧ w.grownBy (w.setCell ⟨g, k, none⟩ (.string x)) (some g) := by
  obtain ⟨g, rfl, hlo, hg, hc⟩ := h.form (by omega)
  have hl := h.len
  obtain ⟨h2, h3⟩ := World.ownsRow.stored h k (.string x)
  have hl' : k < xs.length := by omega
  refine ⟨g, xs[k], rfl, hlo, hg, ?_, World.ownsRow.frozenAt h k, ?_, h3⟩
  · rw [World.ownsRow.cellAt h k (by omega), cT_get, List.getElem?_eq_getElem hl']
    rfl
  · unfold OwnT cT
    rw [List.map_set]
    exact h2
end
theorem OwnR.rt {w : World} {lo hi n c : Nat} {A : Option Addr} {xs : List ByteArray} (h : OwnR w lo hi 9 1 A n c (cT xs)) : RT w w.heap.size A n xs := Reads.of_own h.1
/-- A fresh slice of strings comes back; what was there stays. -/
def RetT (w : World) (ys : List ByteArray) (e : Ending) (w' : World) : Prop := ∃ A n c, e = .returned (.slice A n c) ∧ OwnT w' w.heap.size A n c ys ∧ Below w.heap.size w w'
theorem below_next {w a b : World} (h : Below w.heap.size w a) (hb : Below a.heap.size a b) : Below w.heap.size w b := h.trans (hb.mono h.size)
theorem str_eq (a b : ByteArray) : (a.toList == b.toList) = decide (a = b) := by
  rw [Bool.eq_iff_iff, beq_iff_eq, decide_eq_true_iff]
  constructor
  · intro h
    rw [ByteArray.toList_eq, ByteArray.toList_eq] at h
    exact ByteArray.ext (Array.toList_inj.1 h)
  · intro h; rw [h]

theorem info_string : (Tryz.prog.info? 9).map (fun i => (i.zero, i.size, i.bytes)) = some (some (.string ByteArray.empty), 1, 16) := by kernel_rfl
theorem copyT_step (xs : List ByteArray) (n k : Nat) (x : ByteArray) (hl : xs.length = n) (hk : k < n) (hx : xs[k]? = some x) : (xs.take k ++ List.replicate (n - k) ByteArray.empty).set k x = xs.take (k + 1) ++ List.replicate (n - (k + 1)) ByteArray.empty := by
  have e : n - k = (n - (k + 1)) + 1 := by omega
  rw [List.set_append_right _ _ (by simp; omega), e, List.replicate_succ]
  have e2 : k - (List.take k xs).length = 0 := by simp; omega
  rw [e2, List.set_cons_zero, List.take_add_one, hx, List.append_assoc]
  rfl



/-- how many bytes the first k strings have -/
def lenT (xs : List ByteArray) : Nat := (xs.map ByteArray.size).sum
theorem lenT_take_succ {xs : List ByteArray} {k : Nat} {x : ByteArray} (h : xs[k]? = some x) : lenT (xs.take (k + 1)) = lenT (xs.take k) + x.size := by
  rw [List.take_add_one, h]
  simp [lenT]
theorem lenT_take_le (xs : List ByteArray) (k : Nat) : lenT (xs.take k) ≤ lenT xs := by
  unfold lenT
  have h := congrArg List.sum (List.take_append_drop k (xs.map ByteArray.size))
  rw [List.sum_append] at h
  rw [List.map_take]
  omega
end Go.Proofs.YtdpmpdhhjmbbcaaGreatDoor
