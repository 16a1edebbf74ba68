/- How a slice of strings among a law's arguments is opened: it reads as a list of strings. -/
import Derived.Test.YtibnindjdbkmcaaProg
import Derived.Test.YtibnindjdbkmcaaTxt
import Derived.ProofKit
import Derived.OpenShut
import Derived.KernelRfl
import Derived.SliceStrings
namespace Go.Proofs.Ytibnindjdbkmcaa
open Go.ChangeShapes Go.WideShapes Go.ChangeAt Go.RowKit

theorem open_RT {H : Type} {enc : TypeId × Value → H} {W : World} {base : Nat} {spare : Nat → Bool} {held : Bool} {A : Option Addr} {n c : Nat} {d : DataW H} {p : List MemPlace}
    (h : DataW.Trod enc Try.prog W base spare held 27 (.slice A n c) d p) : ∃ xs, RT W W.heap.size A n xs ∧ n ≤ 9223372036854775807 ∧ ∀ x ∈ xs, x.size ≤ 9223372036854775807 := by
  obtain ⟨fuel, hf⟩ := h
  rcases open_strings Try.underlying27 Try.underlying9 (by kernel_rfl) hf with ⟨hcs, _⟩ | ⟨x, l, c', zs, hcs, _, hl, hm, hz, _, hcell, hwz⟩
  · simp [Value.cells] at hcs
    obtain ⟨rfl, rfl, rfl⟩ := hcs
    exact ⟨[], Reads.none_, by omega, by simp⟩
  · simp [Value.cells] at hcs
    obtain ⟨rfl, rfl, rfl⟩ := hcs
    have hnl : n ≤ zs.length := by rw [hz]; split <;> omega
    refine ⟨zs.take n, ⟨?_, fun h0 => ?_⟩, by unfold maxLen at hm; omega, fun v hv => by have := hwz v (List.mem_of_mem_take hv); unfold maxLen at this; omega⟩
    · rw [cT_length, List.length_take]
      omega
    · have hc0 := hcell 0 (by omega)
      refine ⟨x, rfl, by have := World.block_lt_of_cell? W _ hc0; rwa [block_of_add] at this, fun j u hu => ?_⟩
      rw [cT_get] at hu
      have hj : j < n := by
        rcases Nat.lt_or_ge j n with h | h
        · exact h
        · rw [List.getElem?_eq_none (by rw [List.length_take]; omega)] at hu
          cases hu
      rw [hcell j (by omega), ← hu, List.getElem?_take, if_pos hj, List.getD_eq_getElem?_getD]
      simp [show j < zs.length by omega]
end Go.Proofs.Ytibnindjdbkmcaa
