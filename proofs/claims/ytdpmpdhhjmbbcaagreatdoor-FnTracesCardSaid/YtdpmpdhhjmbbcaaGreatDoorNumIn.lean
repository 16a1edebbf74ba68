/- Chapter 2, the walks: the numbers of words: the program's. -/
import Derived.Test.YtdpmpdhhjmbbcaaGreatDoorProg
import Derived.Test.YtdpmpdhhjmbbcaaGreatDoorCutB
import Derived.Test.YtdpmpdhhjmbbcaaGreatDoorInts
namespace Go.Proofs.YtdpmpdhhjmbbcaaGreatDoor
open Go.RowKit

theorem map_step {ws : List ByteArray} {k : Nat} {x : ByteArray} (h : ws[k]? = some x) : (ws.take (k + 1)).map atZ = (ws.take k).map atZ ++ [atZ x] := by
  rw [List.take_add_one, h]
  simp
set_option maxHeartbeats 2000000 in
set_option maxRecDepth 100000 in
theorem numbersIn_any (A : Option Addr) (n c : Nat) (ws : List ByteArray) (w : World) (hr : RT w w.heap.size A n ws) (hn : n ≤ 2097152) (hz : ∀ x ∈ ws, x.size ≤ 1048576) (he : EnvP w) :
    Calls Tryz.prog 22 #[.slice A n c] w (RetI w (ws.map atZ)) := by
  have HR := hide hr
  have HZ := hide hz
  have HE := hide he
  have HL := hide hr.len
  clear hr hz he
  have HO0 : Hid (OwnI (w.alloc (.cells #[] 3)) w.heap.size (some ⟨w.heap.size, 0, none⟩) 0 0 []) := OwnI.empty w (Nat.le_refl _)
  have HB0 : Hid (Below w.heap.size w (w.alloc (.cells #[] 3))) := (Below.refl _ w).alloc (Nat.le_refl _) _
  go_enter Tryz.func22, Tryz.ntmps22
  go_wp2_with fail
  generalize w.alloc (.cells #[] 3) = w0 at *
  go_loopw [3, 11] (fun v i wr => ∃ (k : Nat) (A' : Option Addr) (c' : Nat), k ≤ n ∧ i = .int .i64 (k : Int) ∧ v = .slice A' k c' ∧ Hid (OwnI wr w.heap.size A' k c' ((ws.take k).map atZ)) ∧ Hid (Below w.heap.size w wr)) (fun _ i _ => n - (intOf i).toNat)
  case atStart => exact ⟨0, _, 0, Nat.zero_le _, rfl, rfl, HO0, HB0⟩
  case round =>
    obtain ⟨k, A', c', hk, rfl, rfl, hO, hB⟩ := hrel
    by_cases hlt : k < n
    · obtain ⟨ad, x, rfl, hbx, hx, c0⟩ := ((unhide HR).below (unhide hB)).get hlt
      have l1 : (k : Int) < (n : Int) := by omega
      have l2 : (0 : Int) ≤ (k : Int) := by omega
      have HM := hide (map_step (unhide hx))
      rcases Atoi_any x wr (unhide HZ x (List.mem_of_getElem? (unhide hx))) ((unhide HE).stays (unhide hB)) with ⟨m, hm, hc⟩ | ⟨hm, hc⟩
      · rw [hm] at HM
        have HC := hide hc
        clear hm hc hx hbx
        go_wp2_with fail
        refine (unhide HC).mono ?_
        rintro e w1 ⟨rfl, hb⟩
        have HB1 := hide ((unhide hB).trans (hb.mono (unhide hB).size))
        have HO1 := hide (OwnI.below (unhide hO) hb (Nat.le_refl _))
        clear hb c0
        go_wp2_with (at_builtin; refine append_int _ rfl _ _ rfl w A' k c' _ rfl ((unhide HO1).alloc _) ((unhide HB1).alloc (unhide HB1).size _) _ m rfl (cellNew _ _ _) (by omega) ?_; intro A2 c2 w2 hO2 hB2; have HO2 := hide hO2; have HB2 := hide hB2; clear hO2 hB2)
        go_roundw
        case rel => exact ⟨k + 1, A2, c2, by omega, by go_num, rfl, by rw [unhide HM]; exact HO2, HB2⟩
        case measure => simp [intOf]; omega
      · rw [hm] at HM
        have HC := hide hc
        clear hm hc hx hbx
        go_wp2_with fail
        refine (unhide HC).mono ?_
        rintro e w1 ⟨m, t, p, rfl, hb⟩
        have HB1 := hide ((unhide hB).trans (hb.mono (unhide hB).size))
        have HO1 := hide (OwnI.below (unhide hO) hb (Nat.le_refl _))
        clear hb c0
        go_wp2_with (at_builtin; refine append_int _ rfl _ _ rfl w A' k c' _ rfl ((unhide HO1).alloc _) ((unhide HB1).alloc (unhide HB1).size _) _ 0 rfl (cellNew _ _ _) (by omega) ?_; intro A2 c2 w2 hO2 hB2; have HO2 := hide hO2; have HB2 := hide hB2; clear hO2 hB2)
        go_roundw
        case rel => exact ⟨k + 1, A2, c2, by omega, by go_num, rfl, by rw [unhide HM]; exact HO2, HB2⟩
        case measure => simp [intOf]; omega
    · obtain rfl : k = n := by omega
      have l1 : ¬ (k : Int) < (k : Int) := by omega
      have HM : Hid ((ws.take k).map atZ = ws.map atZ) := by unfold Hid; rw [List.take_of_length_le (by have := unhide HL; omega)]
      go_wp2_with fail
      go_ret
      rw [← unhide HM]
      exact ⟨A', k, c', rfl, unhide hO, unhide hB⟩
end Go.Proofs.YtdpmpdhhjmbbcaaGreatDoor
