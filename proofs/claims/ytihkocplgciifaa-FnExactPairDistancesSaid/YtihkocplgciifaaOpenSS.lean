/- How a slice of stations among a law's arguments is opened: it reads as a list of stations. -/
import Derived.Test.YtihkocplgciifaaProg
import Derived.Test.YtihkocplgciifaaSts
import Derived.Test.YtihkocplgciifaaOpenS
import Derived.Deep.Slices
import Derived.ChangeSame
import Derived.Deep.SlicePairs
namespace Go.Proofs.Ytihkocplgciifaa
open Go.Joins Go.ChangeShapes Go.WideShapes Go.ChangeAt Go.RowKit Go.Deep

section
variable {H : Type} {enc : TypeId × Value → H} {P : Program} {w : World} {base : Nat} {spare : Nat → Bool} {held : Bool}
theorem open_slice8 {t e : TypeId} {f0 f1 f2 f3 f4 f5 f6 f7 : Field} {fuel : Nat} {cs : List Value} {x : DataW H × List MemPlace} (ht : P.underlying t = some (.slice e)) (hs : P.underlying e = some (.struct #[f0, f1, f2, f3, f4, f5, f6, f7]))
    (hone : oneCellFields P #[f0, f1, f2, f3, f4, f5, f6, f7] = true) (ce : P.cellsOf e = 8) (h : DataW.trod enc P w base spare held fuel t cs = some x) :
    cs = [.slice none 0 0] ∨ ∃ (a : Addr) (len cap m n : Nat), cs = [.slice (some a) len cap] ∧ len ≤ m ∧ len ≤ cap ∧ cap ≤ maxLen ∧
      ∀ i, i < m → ∃ (v0 v1 v2 v3 v4 v5 v6 v7 : Value) (y0 y1 y2 y3 y4 y5 y6 y7 : DataW H × List MemPlace),
        (w.cell? (a.add (i * 8 + 0)) = some v0 ∧ w.cell? (a.add (i * 8 + 1)) = some v1 ∧ w.cell? (a.add (i * 8 + 2)) = some v2 ∧ w.cell? (a.add (i * 8 + 3)) = some v3 ∧ w.cell? (a.add (i * 8 + 4)) = some v4 ∧ w.cell? (a.add (i * 8 + 5)) = some v5 ∧ w.cell? (a.add (i * 8 + 6)) = some v6 ∧ w.cell? (a.add (i * 8 + 7)) = some v7) ∧
        DataW.trod enc P w base spare held n f0.type [v0] = some y0 ∧ DataW.trod enc P w base spare held n f1.type [v1] = some y1 ∧ DataW.trod enc P w base spare held n f2.type [v2] = some y2 ∧ DataW.trod enc P w base spare held n f3.type [v3] = some y3 ∧
        DataW.trod enc P w base spare held n f4.type [v4] = some y4 ∧ DataW.trod enc P w base spare held n f5.type [v5] = some y5 ∧ DataW.trod enc P w base spare held n f6.type [v6] = some y6 ∧ DataW.trod enc P w base spare held n f7.type [v7] = some y7 := by
  rcases open_slice ht h with ⟨h0, _⟩ | ⟨a, len, cap, m, n, D, Pl, rfl, hb, hl, hm, hmm, rfl, hx⟩
  · exact .inl h0
  refine .inr ⟨a, len, cap, m, n - 1, rfl, by rw [hmm]; split <;> omega, hl, hm, fun i hi => ?_⟩
  obtain ⟨cs', h1, h2⟩ := hx i hi
  rw [ce] at h1
  obtain ⟨_, hlen, hcell⟩ := World.cells?_some h1
  obtain ⟨xs, k, hk, hxy, _, hxl, hf⟩ := DataW.trod_struct hs h2
  have hk' : k = n - 1 := by omega
  subst hk'
  obtain ⟨o0, k0⟩ := hone_of hone 0 f0 rfl
  obtain ⟨o1, k1⟩ := hone_of hone 1 f1 rfl
  obtain ⟨o2, k2⟩ := hone_of hone 2 f2 rfl
  obtain ⟨o3, k3⟩ := hone_of hone 3 f3 rfl
  obtain ⟨o4, k4⟩ := hone_of hone 4 f4 rfl
  obtain ⟨o5, k5⟩ := hone_of hone 5 f5 rfl
  obtain ⟨o6, k6⟩ := hone_of hone 6 f6 rfl
  obtain ⟨o7, k7⟩ := hone_of hone 7 f7 rfl
  match xs, hxl, cs', hlen with
  | [y0, y1, y2, y3, y4, y5, y6, y7], _, [v0, v1, v2, v3, v4, v5, v6, v7], _ =>
    have q : ∀ j, j < 8 → w.cell? (a.add (i * 8 + j)) = [v0, v1, v2, v3, v4, v5, v6, v7][j]? := fun j hj => by
      have e := hcell j hj
      rwa [add_of_add] at e
    exact ⟨v0, v1, v2, v3, v4, v5, v6, v7, y0, y1, y2, y3, y4, y5, y6, y7,
      ⟨q 0 (by omega), q 1 (by omega), q 2 (by omega), q 3 (by omega), q 4 (by omega), q 5 (by omega), q 6 (by omega), q 7 (by omega)⟩,
      by simpa [o0, k0] using hf 0 f0 rfl, by simpa [o1, k1] using hf 1 f1 rfl, by simpa [o2, k2] using hf 2 f2 rfl, by simpa [o3, k3] using hf 3 f3 rfl, by simpa [o4, k4] using hf 4 f4 rfl, by simpa [o5, k5] using hf 5 f5 rfl, by simpa [o6, k6] using hf 6 f6 rfl, by simpa [o7, k7] using hf 7 f7 rfl⟩
end

theorem open_RS {H : Type} {enc : TypeId × Value → H} {W : World} {base : Nat} {spare : Nat → Bool} {held : Bool} {A : Option Addr} {n c : Nat} {d : DataW H} {p : List MemPlace}
    (h : DataW.Trod enc Try.prog W base spare held 29 (.slice A n c) d p) : ∃ xs, RS W W.heap.size A n xs ∧ n ≤ 9223372036854775807 ∧ ∀ x ∈ xs, x.nm.size ≤ 9223372036854775807 := by
  obtain ⟨fuel, hf⟩ := h
  rcases open_slice8 Try.underlying29 Try.underlying23 (by kernel_rfl) (by kernel_rfl) hf with hcs | ⟨a, len, cap, m, nf, hcs, hlm, hlc, hm, hcell⟩
  · simp [Value.cells] at hcs
    obtain ⟨rfl, rfl, rfl⟩ := hcs
    exact ⟨[], ⟨by simp [cS], fun h => absurd h (by omega)⟩, by omega, by simp⟩
  · simp [Value.cells] at hcs
    obtain ⟨rfl, rfl, rfl⟩ := hcs
    obtain ⟨Z, hZ⟩ := choose_lt (n := n) (p := fun i (q : St) => q.nm.size ≤ 9223372036854775807 ∧ ∀ j u, (fS q)[j]? = some u → W.cell? (a.add (i * 8 + j)) = some u) (fun i hi => by
      obtain ⟨v0, v1, v2, v3, v4, v5, v6, v7, y0, y1, y2, y3, y4, y5, y6, y7, ⟨q0, q1, q2, q3, q4, q5, q6, q7⟩, g0, g1, g2, g3, g4, g5, g6, g7⟩ := hcell i (by omega)
      obtain ⟨b0, e0, _, _⟩ := DataW.trod_int Try.underlying3 g0
      obtain ⟨b1, e1, _, wf1⟩ := DataW.trod_string Try.underlying9 g1
      obtain ⟨b2, e2, _, _⟩ := DataW.trod_int Try.underlying3 g2
      obtain ⟨b3, e3, _, _⟩ := DataW.trod_int Try.underlying3 g3
      obtain ⟨b4, e4, _, _⟩ := DataW.trod_int Try.underlying3 g4
      obtain ⟨b5, e5, _, _⟩ := DataW.trod_int Try.underlying3 g5
      obtain ⟨b6, e6, _, _⟩ := DataW.trod_int Try.underlying3 g6
      obtain ⟨b7, e7, _, _⟩ := DataW.trod_int Try.underlying3 g7
      simp only [List.cons.injEq, and_true] at e0 e1 e2 e3 e4 e5 e6 e7
      subst e0 e1 e2 e3 e4 e5 e6 e7
      refine ⟨⟨b0, b1, b2, b3, b4, b5, b6, b7⟩, by unfold maxLen at wf1; exact wf1, fun j u hu => ?_⟩
      match j, hu with
      | 0, hu => simp [fS] at hu; subst hu; exact q0
      | 1, hu => simp [fS] at hu; subst hu; exact q1
      | 2, hu => simp [fS] at hu; subst hu; exact q2
      | 3, hu => simp [fS] at hu; subst hu; exact q3
      | 4, hu => simp [fS] at hu; subst hu; exact q4
      | 5, hu => simp [fS] at hu; subst hu; exact q5
      | 6, hu => simp [fS] at hu; subst hu; exact q6
      | 7, hu => simp [fS] at hu; subst hu; exact q7
      | j + 8, hu => simp [fS] at hu)
    have hlen : ((List.range n).map Z).length = n := by simp
    refine ⟨(List.range n).map Z, ⟨by rw [cS_length, hlen], fun h0 => ?_⟩, by unfold maxLen at hm; omega, fun x hx => ?_⟩
    · have hc0 := (hZ 0 h0).2 0 _ rfl
      refine ⟨a, rfl, by have := World.block_lt_of_cell? W _ hc0; rwa [block_of_add] at this, fun j u hu => ?_⟩
      have hl : j < (cS ((List.range n).map Z)).length := (List.getElem?_eq_some_iff.1 hu).1
      rw [cS_length, hlen] at hl
      have hk : j / 8 < n := by omega
      have ej : j = j / 8 * 8 + j % 8 := by omega
      rw [ej, cS_get _ _ _ (Nat.mod_lt _ (by omega))] at hu
      have hg : ((List.range n).map Z)[j / 8]? = some (Z (j / 8)) := by simp [hk]
      rw [hg] at hu
      rw [ej]
      exact (hZ (j / 8) hk).2 _ u hu
    · obtain ⟨i, hi, rfl⟩ := List.mem_map.1 hx
      exact (hZ i (List.mem_range.1 hi)).1
end Go.Proofs.Ytihkocplgciifaa
