/- Rows of elements of several cells: how their cells stand in one list. Plain: nothing of the program is named. -/
import Derived.Test.YtihkocplgciifaaWords
namespace Go.Proofs.Ytihkocplgciifaa
open Go.RowKit

section
variable {α : Type} {f : α → List Value} {s : Nat}
theorem flat_len (hf : ∀ x, (f x).length = s) (xs : List α) : (xs.flatMap f).length = xs.length * s := by
  induction xs with
  | nil => simp
  | cons x l ih => rw [List.flatMap_cons, List.length_append, hf, ih, List.length_cons, Nat.succ_mul, Nat.add_comm]
theorem flat_get (hf : ∀ x, (f x).length = s) (xs : List α) (k j : Nat) (hj : j < s) : (xs.flatMap f)[k * s + j]? = (xs[k]?).bind fun x => (f x)[j]? := by
  induction xs generalizing k with
  | nil => simp
  | cons x l ih =>
    rw [List.flatMap_cons]
    cases k with
    | zero => rw [List.getElem?_append_left (by rw [hf]; omega)]; simp
    | succ k =>
      rw [List.getElem?_append_right (by rw [hf, Nat.succ_mul]; omega), hf, show (k + 1) * s + j - s = k * s + j by rw [Nat.succ_mul]; omega, ih]
      simp
theorem flat_take (hf : ∀ x, (f x).length = s) (xs : List α) (k : Nat) : (xs.flatMap f).take (k * s) = (xs.take k).flatMap f := by
  induction xs generalizing k with
  | nil => simp
  | cons x l ih =>
    cases k with
    | zero => simp
    | succ k => rw [List.flatMap_cons, List.take_append, List.take_of_length_le (by rw [hf, Nat.succ_mul]; omega), hf, show (k + 1) * s - s = k * s by rw [Nat.succ_mul]; omega, ih, List.take_succ_cons, List.flatMap_cons]
theorem flat_drop (hf : ∀ x, (f x).length = s) (xs : List α) (k : Nat) : (xs.flatMap f).drop (k * s) = (xs.drop k).flatMap f := by
  induction xs generalizing k with
  | nil => simp
  | cons x l ih =>
    cases k with
    | zero => simp
    | succ k => rw [List.flatMap_cons, List.drop_append, List.drop_of_length_le (by rw [hf, Nat.succ_mul]; omega), hf, show (k + 1) * s - s = k * s by rw [Nat.succ_mul]; omega, ih, List.drop_succ_cons, List.nil_append]
theorem flat_one (h1 : ∀ x, ∀ u ∈ f x, u.oneCell' = true) (xs : List α) : ∀ u ∈ xs.flatMap f, u.oneCell' = true := by
  intro u hu
  obtain ⟨x, _, hx⟩ := List.mem_flatMap.1 hu
  exact h1 x u hx
end

/-! ### pairs of numbers -/
def fP (p : Int × Int) : List Value := [.int .i64 p.1, .int .i64 p.2]
theorem fP_len (p : Int × Int) : (fP p).length = 2 := rfl
def cP (xs : List (Int × Int)) : List Value := xs.flatMap fP
theorem cP_length (xs : List (Int × Int)) : (cP xs).length = xs.length * 2 := flat_len fP_len xs
theorem cP_get0 (xs : List (Int × Int)) (k : Nat) : (cP xs)[k * 2]? = xs[k]?.map fun p => .int .i64 p.1 := by
  have := flat_get fP_len xs k 0 (by omega)
  unfold cP
  rw [show k * 2 = k * 2 + 0 by omega, this]
  cases xs[k]? <;> rfl
theorem cP_get1 (xs : List (Int × Int)) (k : Nat) : (cP xs)[k * 2 + 1]? = xs[k]?.map fun p => .int .i64 p.2 := by
  have := flat_get fP_len xs k 1 (by omega)
  unfold cP
  rw [this]
  cases xs[k]? <;> rfl
theorem cP_one (xs : List (Int × Int)) : ∀ u ∈ cP xs, u.oneCell' = true := flat_one (fun p u hu => by
  unfold fP at hu
  simp at hu
  rcases hu with rfl | rfl <;> rfl) xs
theorem cP_append (xs ys : List (Int × Int)) : cP (xs ++ ys) = cP xs ++ cP ys := List.flatMap_append ..
theorem cP_set (xs : List (Int × Int)) (k : Nat) (x y : Int) : ((cP xs).set (k * 2) (.int .i64 x)).set (k * 2 + 1) (.int .i64 y) = cP (xs.set k (x, y)) := by
  induction xs generalizing k with
  | nil => simp [cP]
  | cons p l ih =>
    cases k with
    | zero => simp [cP, fP]
    | succ k =>
      have := ih k
      unfold cP at this ⊢
      rw [List.set_cons_succ, List.flatMap_cons, List.flatMap_cons, ← this]
      simp [fP, Nat.succ_mul]

/-- The slice value '.slice A n c' reads as the pairs xs and lies below block B. -/
def RP (w : World) (B : Nat) (A : Option Addr) (n : Nat) (xs : List (Int × Int)) : Prop := Reads w B 2 A n (cP xs)
/-- The slice value '.slice A n c' (elements of type E) reads as the pairs xs and lies, not frozen, in one of the blocks from lo on. -/
def OwnP (w : World) (lo : Nat) (E : TypeId) (A : Option Addr) (n c : Nat) (xs : List (Int × Int)) : Prop := w.ownsRow lo E 2 (.slice A n c) n (cP xs)
section
variable {w w' : World} {B B' lo lo' hi n c : Nat} {E : TypeId} {A : Option Addr} {xs : List (Int × Int)}
theorem RP.len (h : RP w B A n xs) : xs.length = n := by have := h.1; rw [cP_length] at this; omega
theorem RP.get {k : Nat} (h : RP w B A n xs) (hk : k < n) : ∃ ad x y, A = some ad ∧ ad.block < B ∧ Hid (xs[k]? = some (x, y)) ∧ w.cell? (ad.add (k * 2)) = some (.int .i64 x) ∧ w.cell? ⟨(ad.add (k * 2)).block, (ad.add (k * 2)).off + 1, none⟩ = some (.int .i64 y) := by
  obtain ⟨ad, e, hb, hc⟩ := h.2 (by omega)
  have hl : k < xs.length := by rw [h.len]; exact hk
  have e1 : (⟨(ad.add (k * 2)).block, (ad.add (k * 2)).off + 1, none⟩ : Addr) = ad.add (k * 2 + 1) := by rw [← add_of_add]; rfl
  refine ⟨ad, xs[k].1, xs[k].2, e, hb, List.getElem?_eq_getElem hl, hc _ _ ?_, e1 ▸ hc _ _ ?_⟩
  · rw [cP_get0, List.getElem?_eq_getElem hl]; rfl
  · rw [cP_get1, List.getElem?_eq_getElem hl]; rfl
theorem RP.below (h : RP w B A n xs) (hb : Below B w w') : RP w' B A n xs := Reads.below h hb
theorem RP.more (h : RP w B A n xs) (hB : B ≤ B') : RP w B' A n xs := Reads.more h hB
theorem RP.alloc (h : RP w B A n xs) (hB : B ≤ w.heap.size) (o : Obj) : RP (w.alloc o) B A n xs := Reads.alloc h hB o
theorem RP.take (h : RP w B A n xs) {k : Nat} (hk : k ≤ n) : RP w B A k (xs.take k) := by
  have := Reads.take h hk
  unfold RP cP
  rwa [← flat_take fP_len]
theorem RP.cut (h : RP w B A n xs) {k cap : Nat} (hk : k ≤ n) (hc : n ≤ cap) : RP w B (if cap = k then A else A.map (·.add (k * 2))) (n - k) (xs.drop k) := by
  have := Reads.cut h hk hc
  unfold RP cP
  rwa [← flat_drop fP_len]
theorem OwnP.len (h : OwnP w lo E A n c xs) : xs.length = n := by have := h.1; rw [cP_length] at this; omega
theorem OwnP.rp (h : OwnP w lo E A n c xs) : RP w w.heap.size A n xs := Reads.of_own h
theorem OwnP.alloc (h : OwnP w lo E A n c xs) (o : Obj) : OwnP (w.alloc o) lo E A n c xs := World.ownsRow.alloc h o
theorem OwnP.lt (h : OwnP w lo E A n c xs) {g : Nat} (hg : (Value.slice A n c).ownBlock = some g) : lo ≤ g ∧ g < w.heap.size := World.ownsRow.lt h g hg
theorem OwnP.below (h : OwnP w lo E A n c xs) (hb : Below B w w') (hB : w.heap.size ≤ B) : OwnP w' lo E A n c xs := by
  refine ⟨h.1, ?_⟩
  rcases h.2 with hn | ⟨g, cap, cur, hv, hg, hh, rest⟩
  · exact .inl hn
  · have hlt : g < w.heap.size := (Array.getElem?_eq_some_iff.1 hh).1
    exact .inr ⟨g, cap, cur, hv, hg, (hb.block g (by omega)).trans hh, rest⟩
theorem OwnP.less (h : OwnP w lo E A n c xs) (hl : lo' ≤ lo) : OwnP w lo' E A n c xs := by
  refine ⟨h.1, ?_⟩
  rcases h.2 with hn | ⟨g, cap, cur, hv, hg, rest⟩
  · exact .inl hn
  · exact .inr ⟨g, cap, cur, hv, by omega, rest⟩
theorem OwnP.kept (h : OwnP w lo E A n c xs) {row : Option Nat} (hg : w.grownBy w' row) (hne : (Value.slice A n c).ownBlock = none ∨ (Value.slice A n c).ownBlock ≠ row) : OwnP w' lo E A n c xs := World.ownsRow.kept h hg hne
theorem OwnP.nil (w : World) (lo : Nat) (E : TypeId) : OwnP w lo E none 0 0 [] := World.ownsRow_nil _ _ _ _
theorem OwnP.form (h : OwnP w lo E A n c xs) (hn : 0 < n) : ∃ g, A = some ⟨g, 0, none⟩ ∧ lo ≤ g ∧ g < w.heap.size ∧ n ≤ c := by
  rcases h.2 with ⟨_, h0⟩ | ⟨g, cap, cur, hv, hg, hh, hle, _⟩
  · omega
  · injection hv with h1 _ h3
    exact ⟨g, h1, hg, (Array.getElem?_eq_some_iff.1 hh).1, by omega⟩
theorem OwnP.setB (h : OwnP w lo E A n c xs) {a : Addr} (ha : a.block < lo) (u : Value) : OwnP (w.setCell a u) lo E A n c xs := ownsRow_setCell_below h ha u
/-- an empty literal -/
theorem OwnP.empty (w : World) (E : TypeId) (hl : lo ≤ w.heap.size) : OwnP (w.alloc (.cells #[] E)) lo E (some ⟨w.heap.size, 0, none⟩) 0 0 [] :=
  World.ownsRow_lit w #[] 0 hl (Nat.zero_le _) rfl
theorem OwnP.grow {B : Nat} {w0 : World} (h : OwnP w lo E A n c xs) (hb : Below B w0 w) (hB : B ≤ lo) (hs : B ≤ w.heap.size) (hg : w.grownBy w' (Value.slice A n c).ownBlock) : Below B w0 w' :=
  hb.grown hg hs fun k hk => by have := (OwnP.lt h hk).1; omega
theorem OwnP.cap (h : OwnP w lo E A n c xs) : n ≤ c := by
  rcases h.2 with ⟨hv, h0⟩ | ⟨g, cap, cur, hv, hg, hh, hle, _⟩
  · omega
  · injection hv with _ _ h3
    omega
theorem OwnP.max (h : OwnP w lo E A n c xs) : n ≤ 9223372036854775807 := by
  rcases h.2 with ⟨hv, h0⟩ | ⟨g, cap, cur, hv, hg, hh, hle, hm, _⟩
  · omega
  · unfold maxLen at hm
    omega
/-- a store of a pair at place k of the row -/
theorem OwnP.store (h : OwnP w lo E A n c xs) {k : Nat} (hk : k < n) (x y : Int) : ∃ g, A = some ⟨g, 0, none⟩ ∧ lo ≤ g ∧ g < w.heap.size ∧
    w.cell? ⟨g, k * 2, none⟩ = some (.int .i64 (xs.getD k (0, 0)).1) ∧ w.cell? ⟨g, k * 2 + 1, none⟩ = some (.int .i64 (xs.getD k (0, 0)).2) ∧ w.frozen? ⟨g, k * 2, none⟩ = false ∧ w.frozen? ⟨g, k * 2 + 1, none⟩ = false ∧
    OwnP ((w.setCell ⟨g, k * 2, none⟩ (.int .i64 x)).setCell ⟨g, k * 2 + 1, none⟩ (.int .i64 y)) lo E A n c (xs.set k (x, y)) ∧ w.grownBy ((w.setCell ⟨g, k * 2, none⟩ (.int .i64 x)).setCell ⟨g, k * 2 + 1, none⟩ (.int .i64 y)) (some g) := by
  obtain ⟨g, rfl, hlo, hg, hc⟩ := h.form (by omega)
  have hl := h.len
  have hl' : k < xs.length := by omega
  have hcl := h.1
  obtain ⟨h2, h3⟩ := World.ownsRow.stored h (k * 2) (.int .i64 x)
  obtain ⟨h4, h5⟩ := World.ownsRow.stored h2 (k * 2 + 1) (.int .i64 y)
  refine ⟨g, rfl, hlo, hg, ?_, ?_, World.ownsRow.frozenAt h _, World.ownsRow.frozenAt h _, ?_, grownBy_trans h3 h5⟩
  · rw [World.ownsRow.cellAt h (k * 2) (by omega), cP_get0, List.getD_eq_getElem?_getD]
    simp [hl']
  · rw [World.ownsRow.cellAt h (k * 2 + 1) (by omega), cP_get1, List.getD_eq_getElem?_getD]
    simp [hl']
  · unfold OwnP
    rw [← cP_set]
    exact h4
theorem OwnR.rp (h : OwnR w lo hi E 2 A n c (cP xs)) : RP w w.heap.size A n xs := Reads.of_own h.1
end
/-- one new pair of cells, read as a slice of one -/
theorem Reads.two {w : World} {ad : Addr} {u v : Value} (h : w.cell? ad = some u) (h' : w.cell? (ad.add 1) = some v) : Reads w (ad.block + 1) 2 (some ad) 1 [u, v] :=
  ⟨rfl, fun _ => ⟨ad, rfl, by omega, fun j x hj => by
    match j, hj with
    | 0, hj => simp at hj; subst hj; simpa [Addr.add] using h
    | 1, hj => simp at hj; subst hj; exact h'⟩⟩
/-- the n pairs of numbers from k on -/
def marksP (k : Int) (n : Nat) : List (Int × Int) := (List.range n).map fun (i : Nat) => (k + 2 * (i : Int), k + 2 * (i : Int) + 1)
theorem marksP_get (k : Int) (n i : Nat) (h : i < n) : (marksP k n)[i]? = some (k + 2 * (i : Int), k + 2 * (i : Int) + 1) := by simp [marksP, h]
theorem marksP_len (k : Int) (n : Nat) : (marksP k n).length = n := by simp [marksP]
theorem set_step {α : Type} (xs ys : List α) (n i : Nat) (y : α) (hx : xs.length = i) (hl : ys.length = n) (hi : i < n) : (xs ++ ys.drop i).set i y = xs ++ [y] ++ ys.drop (i + 1) := by
  rw [List.set_append_right _ _ (by omega), hx, Nat.sub_self, List.drop_eq_getElem_cons (by omega), List.set_cons_zero, List.append_assoc]
  rfl
theorem markP_step (k : Int) (xs : List (Int × Int)) (n i : Nat) (hl : xs.length = n) (hi : i < n) : (marksP k i ++ xs.drop i).set i (k + 2 * (i : Int), k + 2 * (i : Int) + 1) = marksP k (i + 1) ++ xs.drop (i + 1) := by
  rw [set_step _ _ n i _ (marksP_len k i) hl hi]
  simp [marksP, List.range_succ]
end Go.Proofs.Ytihkocplgciifaa
