/- How a slice of bytes among a law's arguments is opened: it reads as a list of numbers between 0 and 255. -/
import Derived.Test.YtdpmpdhhjmbbcaaGreatDoorProg
import Derived.Test.YtdpmpdhhjmbbcaaGreatDoorCur
import Derived.ProofKit
import Derived.OpenShut
import Derived.KernelRfl
namespace Go.Proofs.YtdpmpdhhjmbbcaaGreatDoor
open Go.ChangeShapes Go.WideShapes Go.ChangeAt Go.RowKit

theorem open_RB {H : Type} {enc : TypeId × Value → H} {W : World} {base : Nat} {spare : Nat → Bool} {held : Bool} {A : Option Addr} {n c : Nat} {d : DataW H} {p : List MemPlace}
    (h : DataW.Trod enc Tryz.prog W base spare held 22 (.slice A n c) d p) : ∃ xs, RB W W.heap.size A n xs := by
  obtain ⟨fuel, hf⟩ := h
  rcases open_ints Tryz.underlying22 Tryz.underlying5 (by kernel_rfl) hf with ⟨hcs, _⟩ | ⟨x, l, c', zs, hcs, _, hl, hm, hz, _, hcell, hwz⟩
  · simp [Value.cells] at hcs
    obtain ⟨rfl, rfl, rfl⟩ := hcs
    exact ⟨[], Reads.none_, by simp⟩
  · simp [Value.cells] at hcs
    obtain ⟨rfl, rfl, rfl⟩ := hcs
    have hnl : n ≤ zs.length := by rw [hz]; split <;> omega
    refine ⟨zs.take n, ⟨?_, fun h0 => ?_⟩, fun v hv => bounds_u8 (hwz v (List.mem_of_mem_take hv))⟩
    · unfold cB
      rw [List.length_map, List.length_take]
      omega
    · have hc0 := hcell 0 (by omega)
      refine ⟨x, rfl, by have := World.block_lt_of_cell? W _ hc0; rwa [block_of_add] at this, fun j u hu => ?_⟩
      unfold cB at hu
      rw [List.getElem?_map] at hu
      have hj : j < n := by
        rcases Nat.lt_or_ge j n with h | h
        · exact h
        · rw [List.getElem?_eq_none (by rw [List.length_take]; omega)] at hu
          cases hu
      rw [hcell j (by omega), ← hu, List.getElem?_take, if_pos hj, List.getD_eq_getElem?_getD]
      simp [show j < zs.length by omega]
end Go.Proofs.YtdpmpdhhjmbbcaaGreatDoor
