/- How a slice of ints in a field of a law s argument is opened. -/
import Derived.Test.YtdpmpdhhjmbbcaaGreatDoorProg
import Derived.Test.YtdpmpdhhjmbbcaaGreatDoorWords
import Derived.ProofKit
import Derived.OpenShut
import Derived.KernelRfl
namespace Go.Proofs.YtdpmpdhhjmbbcaaGreatDoor
open Go.ChangeShapes Go.WideShapes Go.ChangeAt Go.RowKit

theorem wf_bounds {a : Int} (h : (Lit.int .i64 a).wf = true) : -9223372036854775808 ≤ a ∧ a ≤ 9223372036854775807 := by
  have h2 := bounds_i64 h
  omega

theorem open_RI {H : Type} {enc : TypeId × Value → H} {W : World} {base : Nat} {spare : Nat → Bool} {held : Bool} {A : Option Addr} {n c : Nat} {d : DataW H} {p : List MemPlace}
    (h : DataW.Trod enc Tryz.prog W base spare held 24 (.slice A n c) d p) : ∃ xs, RI W W.heap.size A n xs ∧ n ≤ 9223372036854775807 ∧ ∀ x ∈ xs, -9223372036854775808 ≤ x ∧ x ≤ 9223372036854775807 := by
  obtain ⟨fuel, hf⟩ := h
  rcases open_ints Tryz.underlying24 Tryz.underlying3 (by kernel_rfl) hf with ⟨hcs, _⟩ | ⟨x, l, c', zs, hcs, _, hl, hm, hz, _, hcell, hwz⟩
  · simp [Value.cells] at hcs
    obtain ⟨rfl, rfl, rfl⟩ := hcs
    exact ⟨[], Reads.none_, by omega, by simp⟩
  · simp [Value.cells] at hcs
    obtain ⟨rfl, rfl, rfl⟩ := hcs
    have hnl : n ≤ zs.length := by rw [hz]; split <;> omega
    refine ⟨zs.take n, ⟨?_, fun h0 => ?_⟩, by unfold maxLen at hm; omega, fun v hv => bounds_i64 (hwz v (List.mem_of_mem_take hv))⟩
    · rw [cI_length, List.length_take]
      omega
    · have hc0 := hcell 0 (by omega)
      refine ⟨x, rfl, by have := World.block_lt_of_cell? W _ hc0; rwa [block_of_add] at this, fun j u hu => ?_⟩
      rw [cI_get] at hu
      have hj : j < n := by
        rcases Nat.lt_or_ge j n with h | h
        · exact h
        · rw [List.getElem?_eq_none (by rw [List.length_take]; omega)] at hu
          cases hu
      rw [hcell j (by omega), ← hu, List.getElem?_take, if_pos hj, List.getD_eq_getElem?_getD]
      simp [show j < zs.length by omega]
theorem open_RI1 {H : Type} {enc : TypeId × Value → H} {W : World} {base : Nat} {spare : Nat → Bool} {held : Bool} {fuel : Nat} {v : Value} {y : DataW H × List MemPlace}
    (hf : DataW.trod enc Tryz.prog W base spare held fuel 24 [v] = some y) : ∃ A n c xs, v = .slice A n c ∧ RI W W.heap.size A n xs ∧ n ≤ 9223372036854775807 ∧ ∀ x ∈ xs, -9223372036854775808 ≤ x ∧ x ≤ 9223372036854775807 := by
  rcases open_ints Tryz.underlying24 Tryz.underlying3 (by kernel_rfl) hf with ⟨hcs, _⟩ | ⟨x, l, c', zs, hcs, _, hl, hm, hz, _, hcell, hwz⟩
  · simp at hcs
    subst hcs
    exact ⟨none, 0, 0, [], rfl, Reads.none_, by omega, by simp⟩
  · simp at hcs
    subst hcs
    have hnl : l ≤ zs.length := by rw [hz]; split <;> omega
    refine ⟨some x, l, c', zs.take l, rfl, ⟨?_, fun h0 => ?_⟩, by unfold maxLen at hm; omega, fun v hv => bounds_i64 (hwz v (List.mem_of_mem_take hv))⟩
    · rw [cI_length, List.length_take]
      omega
    · have hc0 := hcell 0 (by omega)
      refine ⟨x, rfl, by have := World.block_lt_of_cell? W _ hc0; rwa [block_of_add] at this, fun j u hu => ?_⟩
      rw [cI_get] at hu
      have hj : j < l := by
        rcases Nat.lt_or_ge j l with h | h
        · exact h
        · rw [List.getElem?_eq_none (by rw [List.length_take]; omega)] at hu
          cases hu
      rw [hcell j (by omega), ← hu, List.getElem?_take, if_pos hj, List.getD_eq_getElem?_getD]
      simp [show j < zs.length by omega]
end Go.Proofs.YtdpmpdhhjmbbcaaGreatDoor
