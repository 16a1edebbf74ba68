/- Chapter 4, the walks: differences unpacked from bytes; torn bytes, readable and unpacked samples: the program's and the reference's. -/
import Derived.Test.YtnigieebmjjjjaaProg
import Derived.Test.YtnigieebmjjjjaaPackF
namespace Go.Proofs.Ytnigieebmjjjjaa
open Go.RowKit

/-- a fresh slice of ints and an int come back -/
def RetIN (w : World) (ys : List Int) (r : Int) (e : Ending) (w' : World) : Prop := ∃ A n c, e = .returned (.tuple #[.slice A n c, .int .i64 r]) ∧ OwnI w' w.heap.size A n c ys ∧ Below w.heap.size w w'

theorem nextP_some {bs : List Int} {k : Nat} {n : Int} {j : Nat} (h : nextI (bs.drop k) = some (n, j)) : nextP bs k = (n, ((k + j : Nat) : Int)) := by unfold nextP; rw [h]
theorem nextP_none {bs : List Int} {k : Nat} (h : nextI (bs.drop k) = none) : nextP bs k = (0, -1) := by unfold nextP; rw [h]
theorem nextI_range {bs : List Int} {n : Int} {j : Nat} (hb : ∀ x ∈ bs, 0 ≤ x ∧ x ≤ 255) (h : nextI bs = some (n, j)) : 0 ≤ n ∧ n ≤ 3000000 := by
  unfold nextI at h
  split at h
  · cases h
  · next b r =>
    have h0 := hb b (by simp)
    split at h
    · simp at h
      omega
    · split at h
      · split at h
        · next c r2 =>
          have hc := hb c (by simp)
          simp at h
          omega
        · cases h
      · split at h
        · next c e r2 =>
          have hc := hb c (by simp)
          have he := hb e (by simp)
          simp at h
          omega
        · cases h

set_option maxHeartbeats 2000000 in
theorem l4Read_any (A : Option Addr) (n c : Nat) (bs : List Int) (w : World) (hr : RI w w.heap.size A n bs) (hn : n ≤ 1048576) (hb : ∀ x ∈ bs, 0 ≤ x ∧ x ≤ 255) :
    Calls Try.prog 61 #[.slice A n c] w (RetIN w (upI bs).1 (upI bs).2) := by
  have HR := hide hr
  have HL := hide hr.len
  have HBY := hide hb
  clear hr hb
  go_enter Try.func61, Try.ntmps61
  go_wp2
  go_loopw [4, 5] (fun v i wr => ∃ (k m : Nat) (A' : Option Addr) (c' : Nat) (out : List Int) (f : Nat), k ≤ n ∧ m ≤ k ∧ n ≤ k + f ∧ i = .int .i64 k ∧ v = .slice A' m c' ∧ Hid (upI bs = upGo f out k bs) ∧ Hid (OwnI wr w.heap.size A' m c' out) ∧ Hid (Below w.heap.size w wr)) (fun _ i _ => n - (intOf i).toNat)
  case atStart => exact ⟨0, 0, _, _, [], n, Nat.zero_le _, Nat.zero_le _, by omega, rfl, rfl, by unfold Hid upI; rw [unhide HL], OwnI.empty _ (Nat.le_refl _), (Below.refl _ _).alloc (Nat.le_refl _) _⟩
  case round =>
    obtain ⟨k, m, A', c', out, f, hk, hmk, hf, rfl, rfl, hE, hO, hB⟩ := hrel
    by_cases hlt : k < n
    · have RD := ((unhide HR).below (unhide hB))
      have C := l4Next_any A n c _ k bs wr RD hn hlt (unhide HBY)
      have hge := fun (N : Int) (j : Nat) => nextI_range (bs := bs.drop k) (n := N) (j := j) (fun x hx => unhide HBY x (List.mem_of_mem_drop hx))
      clear RD
      rcases hq : nextI (bs.drop k) with _ | ⟨N, j⟩
      · rw [nextP_none hq] at C
        have HE2 : Hid (upI bs = (out, k)) := by unfold Hid; rw [unhide hE, upGo_stop hq]
        have HC := hide C
        clear C hge hq hE
        go_wp2_with (go_at_call 74; refine (unhide HC).mono ?_; rintro e w1 ⟨rfl, hb1⟩; have HB1 := hide hb1; clear hb1)
        go_ret2
        rw [unhide HE2]
        exact ⟨A', m, c', rfl, OwnI.below (unhide hO) (unhide HB1) (Nat.le_refl _), (unhide hB).trans ((unhide HB1).mono (unhide hB).size)⟩
      · rw [nextP_some hq] at C
        obtain ⟨g0, g1⟩ := hge _ _ hq
        have hj := nextI_j hq
        rw [List.length_drop] at hj
        have hj1 : 1 ≤ j := hj.1
        have hj2 : k + j ≤ n := by have := hj.2; have := unhide HL; omega
        have HE2 : Hid (upI bs = upGo (f - 1) (out ++ [unfI N]) (k + j) bs) := by unfold Hid; rw [unhide hE, upGo_hit (by omega) hq]
        have HC := hide C
        have hp : (0 : Int) ≤ ((k + j : Nat) : Int) := by omega
        have CU := fun W => l4Unfold_any N W g0 (by omega)
        clear C hge hq hE hj
        have hq1 : k + 1 ≤ k + j := by omega
        generalize k + j = q at *
        generalize unfI N = y at *
        have HCU := hide CU
        clear CU
        go_wp2_with (first
          | (go_at_call 74; refine (unhide HC).mono ?_; rintro e w1 ⟨rfl, hb1⟩; have HB1 := hide hb1; clear hb1)
          | (go_at_call 75; refine (unhide HCU _).mono ?_; rintro e wu ⟨rfl, rfl⟩)
          | (at_builtin; refine append_int _ rfl _ _ rfl w A' m c' out rfl ((OwnI.below (unhide hO) (unhide HB1) (Nat.le_refl _)).alloc _) (((unhide hB).trans ((unhide HB1).mono (unhide hB).size)).alloc (Nat.le_trans (unhide hB).size (unhide HB1).size) _) _ y rfl (cellNew _ _ _) (by omega) ?_; intro A2 c2 w2 hO2 hB2))
        have HO2 := hide hO2
        have HB2 := hide hB2
        clear hO2 hB2 hO hB HB1
        go_wp2
        go_roundw
        case rel => exact ⟨q, m + 1, A2, c2, _, f - 1, by omega, by omega, by omega, rfl, rfl, HE2, HO2, HB2⟩
        case measure => simp [intOf]; omega
    · have HE2 : Hid (upI bs = (out, k)) := by unfold Hid; rw [unhide hE, upGo_stop (next_end (by rw [unhide HL]; omega))]
      clear hE
      go_wp2
      go_ret2
      rw [unhide HE2]
      exact ⟨A', m, c', rfl, unhide hO, unhide hB⟩
end Go.Proofs.Ytnigieebmjjjjaa
