/- Chapter 3, words: a station as eight cells, a slice that reads as stations. Plain: nothing of the program is named but the type's number. -/
import Derived.Test.YtihkocplgciifaaFlat
namespace Go.Proofs.Ytihkocplgciifaa
open Go.RowKit

/-- a station -/
structure St where
  id : Int
  nm : ByteArray
  x : Int
  y : Int
  gn : Int
  lw : Int
  hg : Int
  ut : Int
  deriving DecidableEq
instance : Inhabited St := ⟨⟨0, ByteArray.empty, 0, 0, 0, 0, 0, 0⟩⟩
def zSt : St := ⟨0, ByteArray.empty, 0, 0, 0, 0, 0, 0⟩
def fS (s : St) : List Value := [.int .i64 s.id, .string s.nm, .int .i64 s.x, .int .i64 s.y, .int .i64 s.gn, .int .i64 s.lw, .int .i64 s.hg, .int .i64 s.ut]
theorem fS_len (s : St) : (fS s).length = 8 := rfl
def cS (xs : List St) : List Value := xs.flatMap fS
theorem cS_length (xs : List St) : (cS xs).length = xs.length * 8 := flat_len fS_len xs
theorem cS_get (xs : List St) (k j : Nat) (hj : j < 8) : (cS xs)[k * 8 + j]? = xs[k]?.bind fun s => (fS s)[j]? := flat_get fS_len xs k j hj
theorem cS_one (xs : List St) : ∀ u ∈ cS xs, u.oneCell' = true := flat_one (fun s u hu => by
  unfold fS at hu
  simp at hu
  rcases hu with rfl | rfl | rfl | rfl | rfl | rfl | rfl | rfl <;> rfl) xs
theorem cS_append (xs ys : List St) : cS (xs ++ ys) = cS xs ++ cS ys := List.flatMap_append ..
theorem set8_front {a b c d e f g h : Value} (l : List Value) (v : Value) (n j : Nat) : (a :: b :: c :: d :: e :: f :: g :: h :: l).set ((n + 1) * 8 + j) v = a :: b :: c :: d :: e :: f :: g :: h :: l.set (n * 8 + j) v := by
  rw [show (n + 1) * 8 + j = n * 8 + j + 1 + 1 + 1 + 1 + 1 + 1 + 1 + 1 by omega]
  simp only [List.set_cons_succ]
/-- eight stores of a row -/
def set8 (l : List Value) (k : Nat) (s : St) : List Value :=
  (((((((l.set (k * 8) (.int .i64 s.id)).set (k * 8 + 1) (.string s.nm)).set (k * 8 + 2) (.int .i64 s.x)).set (k * 8 + 3) (.int .i64 s.y)).set (k * 8 + 4) (.int .i64 s.gn)).set (k * 8 + 5) (.int .i64 s.lw)).set (k * 8 + 6) (.int .i64 s.hg)).set (k * 8 + 7) (.int .i64 s.ut)
theorem cS_set (xs : List St) (k : Nat) (s : St) : set8 (cS xs) k s = cS (xs.set k s) := by
  induction xs generalizing k with
  | nil => simp [cS, set8]
  | cons p l ih =>
    cases k with
    | zero => simp [cS, fS, set8]
    | succ k =>
      have e := ih k
      unfold cS at e ⊢
      rw [List.set_cons_succ, List.flatMap_cons, List.flatMap_cons, ← e]
      unfold set8
      have h0 := fun (l : List Value) v => set8_front (a := .int .i64 p.id) (b := .string p.nm) (c := .int .i64 p.x) (d := .int .i64 p.y) (e := .int .i64 p.gn) (f := .int .i64 p.lw) (g := .int .i64 p.hg) (h := .int .i64 p.ut) l v k 0
      simp only [Nat.add_zero] at h0
      simp only [fS, List.cons_append, List.nil_append, h0, set8_front]

/-- The slice value '.slice A n c' reads as the stations xs and lies below block B. -/
def RS (w : World) (B : Nat) (A : Option Addr) (n : Nat) (xs : List St) : Prop := Reads w B 8 A n (cS xs)
/-- The slice value '.slice A n c' reads as the stations xs and lies, not frozen, in one of the blocks from lo on. -/
def OwnS (w : World) (lo : Nat) (A : Option Addr) (n c : Nat) (xs : List St) : Prop := w.ownsRow lo 26 8 (.slice A n c) n (cS xs)
/-- eight cells in a row from an address on -/
structure Row8 (w : World) (a : Addr) (s : St) : Prop where
  c0 : w.cell? a = some (.int .i64 s.id)
  c1 : w.cell? ⟨a.block, a.off + 1, none⟩ = some (.string s.nm)
  c2 : w.cell? ⟨a.block, a.off + 2, none⟩ = some (.int .i64 s.x)
  c3 : w.cell? ⟨a.block, a.off + 3, none⟩ = some (.int .i64 s.y)
  c4 : w.cell? ⟨a.block, a.off + 4, none⟩ = some (.int .i64 s.gn)
  c5 : w.cell? ⟨a.block, a.off + 5, none⟩ = some (.int .i64 s.lw)
  c6 : w.cell? ⟨a.block, a.off + 6, none⟩ = some (.int .i64 s.hg)
  c7 : w.cell? ⟨a.block, a.off + 7, none⟩ = some (.int .i64 s.ut)
theorem add_lit' (a : Addr) (j : Nat) (hj : 0 < j) : a.add j = ⟨a.block, a.off + j, none⟩ := by unfold Addr.add; rw [if_neg (by omega)]
section
variable {w w' : World} {B B' lo lo' hi n c : Nat} {E : TypeId} {A : Option Addr} {xs : List St}
theorem Row8.below {a : Addr} {s : St} (h : Row8 w a s) (hb : Below B w w') (ha : a.block < B) : Row8 w' a s :=
  ⟨(hb.cell ha).trans h.c0, (hb.cell (p := ⟨a.block, a.off + 1, none⟩) ha).trans h.c1, (hb.cell (p := ⟨a.block, a.off + 2, none⟩) ha).trans h.c2, (hb.cell (p := ⟨a.block, a.off + 3, none⟩) ha).trans h.c3, (hb.cell (p := ⟨a.block, a.off + 4, none⟩) ha).trans h.c4, (hb.cell (p := ⟨a.block, a.off + 5, none⟩) ha).trans h.c5, (hb.cell (p := ⟨a.block, a.off + 6, none⟩) ha).trans h.c6, (hb.cell (p := ⟨a.block, a.off + 7, none⟩) ha).trans h.c7⟩
theorem Row8.alloc {a : Addr} {s : St} (h : Row8 w a s) (ha : a.block < w.heap.size) (o : Obj) : Row8 (w.alloc o) a s := h.below ((Below.refl w.heap.size w).alloc (Nat.le_refl _) o) ha
theorem RS.len (h : RS w B A n xs) : xs.length = n := by have := h.1; rw [cS_length] at this; omega
theorem RS.get {k : Nat} (h : RS w B A n xs) (hk : k < n) : ∃ ad s, A = some ad ∧ ad.block < B ∧ Hid (xs[k]? = some s) ∧ Row8 w (ad.add (k * 8)) s := by
  obtain ⟨ad, e, hb, hc⟩ := h.2 (by omega)
  have hl : k < xs.length := by rw [h.len]; exact hk
  have e1 : ∀ j, 0 < j → (⟨(ad.add (k * 8)).block, (ad.add (k * 8)).off + j, none⟩ : Addr) = ad.add (k * 8 + j) := fun j hj => by rw [← add_of_add, add_lit' _ j hj]
  have g : ∀ j u, j < 8 → (fS xs[k])[j]? = some u → w.cell? (ad.add (k * 8 + j)) = some u := fun j u hj hu => hc _ _ (by rw [cS_get _ _ _ hj, List.getElem?_eq_getElem hl]; exact hu)
  exact ⟨ad, xs[k], e, hb, List.getElem?_eq_getElem hl, by simpa using g 0 _ (by omega) rfl, by rw [e1 1 (by omega)]; exact g 1 _ (by omega) rfl, by rw [e1 2 (by omega)]; exact g 2 _ (by omega) rfl, by rw [e1 3 (by omega)]; exact g 3 _ (by omega) rfl, by rw [e1 4 (by omega)]; exact g 4 _ (by omega) rfl, by rw [e1 5 (by omega)]; exact g 5 _ (by omega) rfl, by rw [e1 6 (by omega)]; exact g 6 _ (by omega) rfl, by rw [e1 7 (by omega)]; exact g 7 _ (by omega) rfl⟩
theorem RS.below (h : RS w B A n xs) (hb : Below B w w') : RS w' B A n xs := Reads.below h hb
theorem RS.more (h : RS w B A n xs) (hB : B ≤ B') : RS w B' A n xs := Reads.more h hB
theorem RS.alloc (h : RS w B A n xs) (hB : B ≤ w.heap.size) (o : Obj) : RS (w.alloc o) B A n xs := Reads.alloc h hB o
theorem RS.take (h : RS w B A n xs) {k : Nat} (hk : k ≤ n) : RS w B A k (xs.take k) := by
  have := Reads.take h hk
  unfold RS cS
  rwa [← flat_take fS_len]
theorem RS.cut (h : RS w B A n xs) {k cap : Nat} (hk : k ≤ n) (hc : n ≤ cap) : RS w B (if cap = k then A else A.map (·.add (k * 8))) (n - k) (xs.drop k) := by
  have := Reads.cut h hk hc
  unfold RS cS
  rwa [← flat_drop fS_len]
theorem OwnS.len (h : OwnS w lo A n c xs) : xs.length = n := by have := h.1; rw [cS_length] at this; omega
theorem OwnS.rs (h : OwnS w lo A n c xs) : RS w w.heap.size A n xs := Reads.of_own h
theorem OwnS.alloc (h : OwnS w lo A n c xs) (o : Obj) : OwnS (w.alloc o) lo A n c xs := World.ownsRow.alloc h o
theorem OwnS.lt (h : OwnS w lo A n c xs) {g : Nat} (hg : (Value.slice A n c).ownBlock = some g) : lo ≤ g ∧ g < w.heap.size := World.ownsRow.lt h g hg
theorem OwnS.below (h : OwnS w lo A n c xs) (hb : Below B w w') (hB : w.heap.size ≤ B) : OwnS w' lo A n c xs := by
  refine ⟨h.1, ?_⟩
  rcases h.2 with hn | ⟨g, cap, cur, hv, hg, hh, rest⟩
  · exact .inl hn
  · have hlt : g < w.heap.size := (Array.getElem?_eq_some_iff.1 hh).1
    exact .inr ⟨g, cap, cur, hv, hg, (hb.block g (by omega)).trans hh, rest⟩
theorem OwnS.less (h : OwnS w lo A n c xs) (hl : lo' ≤ lo) : OwnS w lo' A n c xs := by
  refine ⟨h.1, ?_⟩
  rcases h.2 with hn | ⟨g, cap, cur, hv, hg, rest⟩
  · exact .inl hn
  · exact .inr ⟨g, cap, cur, hv, by omega, rest⟩
theorem OwnS.kept (h : OwnS w lo A n c xs) {row : Option Nat} (hg : w.grownBy w' row) (hne : (Value.slice A n c).ownBlock = none ∨ (Value.slice A n c).ownBlock ≠ row) : OwnS w' lo A n c xs := World.ownsRow.kept h hg hne
theorem OwnS.nil (w : World) (lo : Nat) : OwnS w lo none 0 0 [] := World.ownsRow_nil _ _ _ _
theorem OwnS.form (h : OwnS w lo A n c xs) (hn : 0 < n) : ∃ g, A = some ⟨g, 0, none⟩ ∧ lo ≤ g ∧ g < w.heap.size ∧ n ≤ c := by
  rcases h.2 with ⟨_, h0⟩ | ⟨g, cap, cur, hv, hg, hh, hle, _⟩
  · omega
  · injection hv with h1 _ h3
    exact ⟨g, h1, hg, (Array.getElem?_eq_some_iff.1 hh).1, by omega⟩
theorem OwnS.setB (h : OwnS w lo A n c xs) {a : Addr} (ha : a.block < lo) (u : Value) : OwnS (w.setCell a u) lo A n c xs := ownsRow_setCell_below h ha u
/-- an empty literal -/
theorem OwnS.empty (w : World) (hl : lo ≤ w.heap.size) : OwnS (w.alloc (.cells #[] 26)) lo (some ⟨w.heap.size, 0, none⟩) 0 0 [] :=
  World.ownsRow_lit w #[] 0 hl (Nat.zero_le _) rfl
theorem OwnS.grow {B : Nat} {w0 : World} (h : OwnS w lo A n c xs) (hb : Below B w0 w) (hB : B ≤ lo) (hs : B ≤ w.heap.size) (hg : w.grownBy w' (Value.slice A n c).ownBlock) : Below B w0 w' :=
  hb.grown hg hs fun k hk => by have := (OwnS.lt h hk).1; omega
theorem OwnS.cap (h : OwnS w lo A n c xs) : n ≤ c := by
  rcases h.2 with ⟨hv, h0⟩ | ⟨g, cap, cur, hv, hg, hh, hle, _⟩
  · omega
  · injection hv with _ _ h3
    omega
theorem OwnS.max (h : OwnS w lo A n c xs) : n ≤ 9223372036854775807 := by
  rcases h.2 with ⟨hv, h0⟩ | ⟨g, cap, cur, hv, hg, hh, hle, hm, _⟩
  · omega
  · unfold maxLen at hm
    omega
/-- the world behind eight stores at place k of block g -/
def put8 (w : World) (g k : Nat) (s : St) : World :=
  (((((((w.setCell ⟨g, k * 8, none⟩ (.int .i64 s.id)).setCell ⟨g, k * 8 + 1, none⟩ (.string s.nm)).setCell ⟨g, k * 8 + 2, none⟩ (.int .i64 s.x)).setCell ⟨g, k * 8 + 3, none⟩ (.int .i64 s.y)).setCell ⟨g, k * 8 + 4, none⟩ (.int .i64 s.gn)).setCell ⟨g, k * 8 + 5, none⟩ (.int .i64 s.lw)).setCell ⟨g, k * 8 + 6, none⟩ (.int .i64 s.hg)).setCell ⟨g, k * 8 + 7, none⟩ (.int .i64 s.ut)
/-- a store of a station at place k of the row -/
theorem OwnS.store (h : OwnS w lo A n c xs) {k : Nat} (hk : k < n) (s : St) : ∃ g, A = some ⟨g, 0, none⟩ ∧ lo ≤ g ∧ g < w.heap.size ∧ Row8 w ⟨g, k * 8, none⟩ (xs.getD k zSt) ∧ (∀ j, w.frozen? ⟨g, j, none⟩ = false) ∧
    OwnS (put8 w g k s) lo A n c (xs.set k s) ∧ w.grownBy (put8 w g k s) (some g) := by
  obtain ⟨g, rfl, hlo, hg, hc⟩ := h.form (by omega)
  have hl := h.len
  have hl' : k < xs.length := by omega
  have hcl := h.1
  obtain ⟨h0, g0⟩ := World.ownsRow.stored h (k * 8) (.int .i64 s.id)
  obtain ⟨h1, g1⟩ := World.ownsRow.stored h0 (k * 8 + 1) (.string s.nm)
  obtain ⟨h2, g2⟩ := World.ownsRow.stored h1 (k * 8 + 2) (.int .i64 s.x)
  obtain ⟨h3, g3⟩ := World.ownsRow.stored h2 (k * 8 + 3) (.int .i64 s.y)
  obtain ⟨h4, g4⟩ := World.ownsRow.stored h3 (k * 8 + 4) (.int .i64 s.gn)
  obtain ⟨h5, g5⟩ := World.ownsRow.stored h4 (k * 8 + 5) (.int .i64 s.lw)
  obtain ⟨h6, g6⟩ := World.ownsRow.stored h5 (k * 8 + 6) (.int .i64 s.hg)
  obtain ⟨h7, g7⟩ := World.ownsRow.stored h6 (k * 8 + 7) (.int .i64 s.ut)
  have hget : xs.getD k zSt = xs[k] := by rw [List.getD_eq_getElem?_getD, List.getElem?_eq_getElem hl']; rfl
  have q : ∀ j u, j < 8 → (fS xs[k])[j]? = some u → w.cell? ⟨g, k * 8 + j, none⟩ = some u := fun j u hj hu => by
    rw [World.ownsRow.cellAt h (k * 8 + j) (by omega), cS_get _ _ _ hj, List.getElem?_eq_getElem hl']
    exact hu
  refine ⟨g, rfl, hlo, hg, ?_, fun j => World.ownsRow.frozenAt h _, ?_, grownBy_trans (grownBy_trans (grownBy_trans (grownBy_trans (grownBy_trans (grownBy_trans (grownBy_trans g0 g1) g2) g3) g4) g5) g6) g7⟩
  · rw [hget]
    exact ⟨by simpa using q 0 _ (by omega) rfl, q 1 _ (by omega) rfl, q 2 _ (by omega) rfl, q 3 _ (by omega) rfl, q 4 _ (by omega) rfl, q 5 _ (by omega) rfl, q 6 _ (by omega) rfl, q 7 _ (by omega) rfl⟩
  · unfold OwnS
    rw [← cS_set]
    exact h7
theorem OwnR.rs (h : OwnR w lo hi E 8 A n c (cS xs)) : RS w w.heap.size A n xs := Reads.of_own h.1
end
end Go.Proofs.Ytihkocplgciifaa
