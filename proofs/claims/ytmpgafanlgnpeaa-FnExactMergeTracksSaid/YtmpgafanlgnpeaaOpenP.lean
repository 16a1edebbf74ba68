/- How a slice of pairs of ints among a law's arguments is opened: it reads as a list of pairs. -/
import Derived.Test.YtmpgafanlgnpeaaProg
import Derived.Test.YtmpgafanlgnpeaaFlat
import Derived.ProofKit
import Derived.OpenShut
import Derived.KernelRfl
import Derived.Deep.SlicePairs
namespace Go.Proofs.Ytmpgafanlgnpeaa
open Go.ChangeShapes Go.WideShapes Go.ChangeAt Go.RowKit Go.Deep

theorem wf_bounds {a : Int} (h : (Lit.int .i64 a).wf = true) : -9223372036854775808 ≤ a ∧ a ≤ 9223372036854775807 := by
  have h2 := bounds_i64 h
  omega

theorem cP_at {xs : List (Int × Int)} {j : Nat} {u : Value} (hu : (cP xs)[j]? = some u) : ∃ k, k < xs.length ∧ ((j = k * 2 ∧ u = .int .i64 (xs.getD k (0, 0)).1) ∨ (j = k * 2 + 1 ∧ u = .int .i64 (xs.getD k (0, 0)).2)) := by
  have hl : j < (cP xs).length := (List.getElem?_eq_some_iff.1 hu).1
  rw [cP_length] at hl
  have hk : j / 2 < xs.length := by omega
  refine ⟨j / 2, hk, ?_⟩
  rcases (show j = j / 2 * 2 ∨ j = j / 2 * 2 + 1 by omega) with e | e
  · rw [e, cP_get0, List.getElem?_eq_getElem hk] at hu
    refine .inl ⟨e, ?_⟩
    rw [List.getD_eq_getElem?_getD, List.getElem?_eq_getElem hk]
    simpa using hu.symm
  · rw [e, cP_get1, List.getElem?_eq_getElem hk] at hu
    refine .inr ⟨e, ?_⟩
    rw [List.getD_eq_getElem?_getD, List.getElem?_eq_getElem hk]
    simpa using hu.symm

theorem open_RP {H : Type} {enc : TypeId × Value → H} {W : World} {base : Nat} {spare : Nat → Bool} {held : Bool} {A : Option Addr} {n c : Nat} {d : DataW H} {p : List MemPlace}
    (h : DataW.Trod enc Try.prog W base spare held 22 (.slice A n c) d p) : ∃ xs, RP W W.heap.size A n xs ∧ n ≤ 9223372036854775807 := by
  obtain ⟨fuel, hf⟩ := h
  rcases open_slice_pairs Try.underlying22 Try.underlying40 (by kernel_rfl) (by kernel_rfl) (by kernel_rfl) (by kernel_rfl) (by kernel_rfl) hf with ⟨hcs, _⟩ | ⟨a, len, cap, m, nf, V0, V1, D0, D1, P0, P1, hcs, _, hl, hm, hmm, _, hcell⟩
  · simp [Value.cells] at hcs
    obtain ⟨rfl, rfl, rfl⟩ := hcs
    exact ⟨[], ⟨by simp [cP], fun h => absurd h (by omega)⟩, by omega⟩
  · simp [Value.cells] at hcs
    obtain ⟨rfl, rfl, rfl⟩ := hcs
    have hnm : n ≤ m := by rw [hmm]; split <;> omega
    obtain ⟨Z, hZ⟩ := choose_lt (n := n) (p := fun i (q : Int × Int) => V0 i = .int .i64 q.1 ∧ V1 i = .int .i64 q.2) (fun i hi => by
      obtain ⟨h0, h1, t0, t1⟩ := hcell i (by omega)
      obtain ⟨x, ex, _, _⟩ := DataW.trod_int Try.underlying3 t0
      obtain ⟨y, ey, _, _⟩ := DataW.trod_int Try.underlying3 t1
      simp at ex ey
      exact ⟨(x, y), ex, ey⟩)
    have hlen : ((List.range n).map Z).length = n := by simp
    refine ⟨(List.range n).map Z, ⟨by rw [cP_length, hlen], fun h0 => ?_⟩, by unfold maxLen at hm; omega⟩
    have hc0 := (hcell 0 (by omega)).1
    refine ⟨a, rfl, by have := World.block_lt_of_cell? W _ hc0; rwa [block_of_add] at this, fun j u hu => ?_⟩
    obtain ⟨k, hk, h9⟩ := cP_at hu
    rw [hlen] at hk
    have hget : ((List.range n).map Z).getD k (0, 0) = Z k := by rw [List.getD_eq_getElem?_getD]; simp [hk]
    rw [hget] at h9
    obtain ⟨h0, h1, _, _⟩ := hcell k (by omega)
    obtain ⟨z0, z1⟩ := hZ k hk
    rcases h9 with ⟨rfl, rfl⟩ | ⟨rfl, rfl⟩
    · rw [h0, z0]
    · rw [h1, z1]
end Go.Proofs.Ytmpgafanlgnpeaa
