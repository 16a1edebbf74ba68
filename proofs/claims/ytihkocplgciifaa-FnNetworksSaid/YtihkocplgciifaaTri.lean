/- Chapter 3, words: a row of three numbers in a block of its own; a slice of such rows; two rows by their third numbers. -/
import Derived.Test.YtihkocplgciifaaProg
import Derived.Test.YtihkocplgciifaaCmpN
import Derived.Test.YtihkocplgciifaaSortPlain
import Derived.Test.YtihkocplgciifaaWhole
namespace Go.Proofs.Ytihkocplgciifaa
open Go.RowKit

/-- three numbers in block b -/
structure Tri where
  b : Nat
  i : Int
  j : Int
  d : Int
  deriving DecidableEq
def vK (r : Tri) : Value := .slice (some ⟨r.b, 0, none⟩) 3 3
def kK (r : Tri) : Array Value := #[.int .i64 r.i, .int .i64 r.j, .int .i64 r.d]
def cK (rs : List Tri) : List Value := rs.map vK
theorem cK_length (rs : List Tri) : (cK rs).length = rs.length * 1 := by unfold cK; rw [List.length_map]; omega
theorem cK_get (rs : List Tri) (k : Nat) : (cK rs)[k]? = rs[k]?.map vK := by unfold cK; rw [List.getElem?_map]
theorem cK_one (rs : List Tri) : ∀ u ∈ cK rs, u.oneCell' = true := by
  intro u hu
  obtain ⟨r, _, rfl⟩ := List.mem_map.1 hu
  rfl
theorem cK_append (xs ys : List Tri) : cK (xs ++ ys) = cK xs ++ cK ys := List.map_append ..
theorem cK_set (rs : List Tri) (k : Nat) (r : Tri) : (cK rs).set k (vK r) = cK (rs.set k r) := by unfold cK; rw [List.map_set]
/-- no two rows in one block -/
def Dst (rs : List Tri) : Prop := ∀ (i j : Nat) (r s : Tri), rs[i]? = some r → rs[j]? = some s → r.b = s.b → i = j
/-- the slice value reads as the rows rs, in blocks from lo on, each row's block known whole -/
structure OwnK (w : World) (lo : Nat) (A : Option Addr) (n c : Nat) (rs : List Tri) : Prop where
  row : w.ownsRow lo 39 1 (.slice A n c) n (cK rs)
  mem : ∀ r ∈ rs, lo ≤ r.b ∧ Whl w r.b 3 (kK r)
  dst : Dst rs
section
variable {w w' : World} {B lo lo' n c : Nat} {A : Option Addr} {xs : List Tri}
theorem OwnK.len (h : OwnK w lo A n c xs) : xs.length = n := by have := h.row.1; rw [cK_length] at this; omega
theorem OwnK.form (h : OwnK w lo A n c xs) (hn : 0 < n) : ∃ g, A = some ⟨g, 0, none⟩ ∧ lo ≤ g ∧ g < w.heap.size ∧ n ≤ c := by
  rcases h.row.2 with ⟨_, h0⟩ | ⟨g, cap, cur, hv, hg, hh, hle, _⟩
  · omega
  · injection hv with h1 _ h3
    exact ⟨g, h1, hg, (Array.getElem?_eq_some_iff.1 hh).1, by omega⟩
theorem OwnK.lt (h : OwnK w lo A n c xs) {g : Nat} (hg : (Value.slice A n c).ownBlock = some g) : lo ≤ g ∧ g < w.heap.size := World.ownsRow.lt h.row g hg
theorem OwnK.cap (h : OwnK w lo A n c xs) : n ≤ c := by
  rcases h.row.2 with ⟨hv, h0⟩ | ⟨g, cap, cur, hv, hg, hh, hle, _⟩
  · omega
  · injection hv with _ _ h3
    omega
theorem OwnK.max (h : OwnK w lo A n c xs) : n ≤ 9223372036854775807 := by
  rcases h.row.2 with ⟨hv, h0⟩ | ⟨g, cap, cur, hv, hg, hh, hle, hm, _⟩
  · omega
  · unfold maxLen at hm
    omega
/-- a block of numbers is not the rows' own -/
theorem OwnK.far (h : OwnK w lo A n c xs) {b : Nat} {cs : Array Value} (hb : Whl w b 3 cs) : (Value.slice A n c).ownBlock ≠ some b := by
  rcases h.row.2 with ⟨hv, _⟩ | ⟨g', cap, cur, hv, _, hh, _⟩
  · rw [hv]; simp [Value.ownBlock]
  · rw [hv]
    intro he
    have e : g' = b := by simpa [Value.ownBlock] using he
    subst e
    unfold Whl at hb
    rw [hb] at hh
    injection hh with hh
    injection hh with _ ht
    exact absurd ht (by decide)
theorem OwnK.below (h : OwnK w lo A n c xs) (hb : Below B w w') (hB : w.heap.size ≤ B) : OwnK w' lo A n c xs := by
  refine ⟨⟨h.row.1, ?_⟩, fun r hr => ⟨(h.mem r hr).1, (hb.block r.b (by have := (h.mem r hr).2.lt; omega)).trans (h.mem r hr).2⟩, h.dst⟩
  rcases h.row.2 with hn | ⟨g, cap, cur, hv, hg, hh, rest⟩
  · exact .inl hn
  · have hlt : g < w.heap.size := (Array.getElem?_eq_some_iff.1 hh).1
    exact .inr ⟨g, cap, cur, hv, hg, (hb.block g (by omega)).trans hh, rest⟩
theorem OwnK.alloc (h : OwnK w lo A n c xs) (o : Obj) : OwnK (w.alloc o) lo A n c xs := h.below ((Below.refl w.heap.size w).alloc (Nat.le_refl _) o) (Nat.le_refl _)
theorem OwnK.dr (h : OwnK w lo A n c xs) : OwnK w.drew lo A n c xs := h.below ((Below.refl w.heap.size w).drew) (Nat.le_refl _)
theorem OwnK.less (h : OwnK w lo A n c xs) (hl : lo' ≤ lo) : OwnK w lo' A n c xs := by
  refine ⟨⟨h.row.1, ?_⟩, fun r hr => ⟨Nat.le_trans hl (h.mem r hr).1, (h.mem r hr).2⟩, h.dst⟩
  rcases h.row.2 with hn | ⟨g, cap, cur, hv, hg, rest⟩
  · exact .inl hn
  · exact .inr ⟨g, cap, cur, hv, by omega, rest⟩
/-- what stays of rows that grew by a block of theirs -/
theorem OwnK.mems (h : OwnK w lo A n c xs) (hg : w.grownBy w' (Value.slice A n c).ownBlock) : ∀ r ∈ xs, lo ≤ r.b ∧ Whl w' r.b 3 (kK r) := fun r hr =>
  ⟨(h.mem r hr).1, (hg.block r.b (h.mem r hr).2.lt (fun e => h.far (h.mem r hr).2 e.symm)).trans (h.mem r hr).2⟩
theorem OwnK.nil (w : World) (lo : Nat) : OwnK w lo none 0 0 [] := ⟨World.ownsRow_nil _ _ _ _, fun r hr => (by cases hr), fun i j r s h => (by cases h)⟩
theorem OwnK.empty (w : World) (hl : lo ≤ w.heap.size) : OwnK (w.alloc (.cells #[] 39)) lo (some ⟨w.heap.size, 0, none⟩) 0 0 [] :=
  ⟨World.ownsRow_lit w #[] 0 hl (Nat.zero_le _) rfl, fun r hr => (by cases hr), fun i j r s h => (by cases h)⟩
theorem OwnK.el {g j : Nat} (h : OwnK w lo (some ⟨g, 0, none⟩) n c xs) (hj : j < n) :
    ∃ x : Tri, Hid (xs[j]? = some x) ∧ w.cell? ⟨g, j, none⟩ = some (.slice (some ⟨x.b, 0, none⟩) 3 3) ∧ w.frozen? ⟨g, j, none⟩ = false := by
  have hl := h.len
  have hl' : j < xs.length := by omega
  refine ⟨xs[j], List.getElem?_eq_getElem hl', ?_, World.ownsRow.frozenAt h.row _⟩
  rw [World.ownsRow.cellAt h.row j (by omega), cK_get, List.getElem?_eq_getElem hl']
  rfl
theorem OwnK.elOf {g j : Nat} {x : Tri} (h : OwnK w lo (some ⟨g, 0, none⟩) n c xs) (hx : xs[j]? = some x) :
    w.cell? ⟨g, j, none⟩ = some (.slice (some ⟨x.b, 0, none⟩) 3 3) ∧ w.frozen? ⟨g, j, none⟩ = false := by
  have hl := h.len
  have hl' : j < xs.length := (List.getElem?_eq_some_iff.1 hx).1
  refine ⟨?_, World.ownsRow.frozenAt h.row _⟩
  rw [World.ownsRow.cellAt h.row j (by omega), cK_get, hx]
  rfl
theorem OwnK.swap {g i j : Nat} {x y : Tri} (h : OwnK w lo (some ⟨g, 0, none⟩) n c xs) (hx : xs[i]? = some x) (hy : xs[j]? = some y) :
    OwnK ((w.setCell ⟨g, i, none⟩ (.slice (some ⟨y.b, 0, none⟩) 3 3)).setCell ⟨g, j, none⟩ (.slice (some ⟨x.b, 0, none⟩) 3 3)) lo (some ⟨g, 0, none⟩) n c (swp xs i j) ∧
      w.grownBy ((w.setCell ⟨g, i, none⟩ (.slice (some ⟨y.b, 0, none⟩) 3 3)).setCell ⟨g, j, none⟩ (.slice (some ⟨x.b, 0, none⟩) 3 3)) (some g) := by
  obtain ⟨a1, a2⟩ := World.ownsRow.stored h.row i (vK y)
  obtain ⟨b1, b2⟩ := World.ownsRow.stored a1 j (vK x)
  have hgr := grownBy_trans a2 b2
  have hgb : (Value.slice (some ⟨g, 0, none⟩) n c).ownBlock = some g := rfl
  have hm := fun k (z : Tri) (hz : (swp xs i j)[k]? = some z) => (show z ∈ xs by
    rw [swp_get hx hy] at hz
    split at hz
    · cases hz; exact List.mem_of_getElem? hx
    · split at hz
      · cases hz; exact List.mem_of_getElem? hy
      · exact List.mem_of_getElem? hz)
  refine ⟨⟨?_, fun r hr => ?_, fun p q r s hr hs e => ?_⟩, hgr⟩
  · rw [swp_of hx hy, ← cK_set, ← cK_set]
    exact b1
  · obtain ⟨k, hk, e⟩ := List.getElem_of_mem hr
    exact h.mems (hgb ▸ hgr) r (hm k r (by rw [List.getElem?_eq_getElem hk, e]))
  · rw [swp_get hx hy] at hr hs
    have d := h.dst
    by_cases p1 : p = j <;> by_cases q1 : q = j <;> simp only [p1, q1, if_true, if_false] at hr hs ⊢
    · cases hr
      by_cases q2 : q = i
      · rw [if_pos q2] at hs; cases hs
        have := d i j x y hx hy e
        omega
      · rw [if_neg q2] at hs
        have := d i q x s hx hs e
        omega
    · cases hs
      by_cases p2 : p = i
      · rw [if_pos p2] at hr; cases hr
        have := d j i y x hy hx e
        omega
      · rw [if_neg p2] at hr
        have := d p i r x hr hx e
        omega
    · by_cases p2 : p = i <;> by_cases q2 : q = i <;> simp only [p2, q2, if_true, if_false] at hr hs ⊢
      · cases hr
        have := d j q y s hy hs e
        omega
      · cases hs
        have := d p j r y hr hy e
        omega
      · exact d p q r s hr hs e
end
/-- two rows by their third numbers -/
theorem cmp_rows (x y : Tri) (w : World) (hx : Whl w x.b 3 (kK x)) (hy : Whl w y.b 3 (kK y)) : Calls Try.prog 102 #[.slice (some ⟨x.b, 0, none⟩) 3 3, .slice (some ⟨y.b, 0, none⟩) 3 3] w fun e w' => e = .returned (.int .i64 (cmpI x.d y.d)) ∧ Below w.heap.size w w' := by
  have c0 : w.cell? ⟨x.b, 2, none⟩ = some (.int .i64 x.d) := hx.cell 2
  have c1 : w.cell? ⟨y.b, 2, none⟩ = some (.int .i64 y.d) := hy.cell 2
  have HC := hide (fun W => Compare_any x.d y.d W)
  clear hx hy
  generalize cmpI x.d y.d = r at *
  go_enter Try.func102, Try.ntmps102
  go_wp2_with fail
  go_quiet ((first | (go_at_call 84; exact Calls.quiet_of_same ((unhide HC _).mono fun _ _ ⟨a, b⟩ => ⟨a, b.symm⟩))))
  go_wp2_with fail
  go_ret
  exact ⟨rfl, (by repeat (first | exact Below.refl _ _ | refine below_drewN ?_ _ | refine Below.drew ?_ | refine Below.alloc ?_ (by simp <;> omega) _))⟩
theorem OwnK.cmp {w : World} {lo n c : Nat} {A : Option Addr} {xs : List Tri} {i j : Nat} {x y : Tri} (h : OwnK w lo A n c xs) (hx : xs[i]? = some x) (hy : xs[j]? = some y) (s : Abv w) :
    Calls Try.prog 102 #[.slice (some ⟨x.b, 0, none⟩) 3 3, .slice (some ⟨y.b, 0, none⟩) 3 3] s.w fun e w' => e = .returned (.int .i64 (cmpI x.d y.d)) ∧ Below s.w.heap.size s.w w' :=
  cmp_rows x y s.w ((s.h.block x.b (h.mem x (List.mem_of_getElem? hx)).2.lt).trans (h.mem x (List.mem_of_getElem? hx)).2) ((s.h.block y.b (h.mem y (List.mem_of_getElem? hy)).2.lt).trans (h.mem y (List.mem_of_getElem? hy)).2)
end Go.Proofs.Ytihkocplgciifaa
