/- The walk of a law's helper on slices of stations: marks held. (By gen_heldS.py.) -/
import Derived.Test.YtihkocplgciifaaProg
import Derived.Test.YtihkocplgciifaaMarkS
namespace Go.Proofs.Ytihkocplgciifaa
open Go.RowKit

set_option maxHeartbeats 2000000 in
set_option maxRecDepth 100000 in
theorem heldStationS_any (A : Option Addr) (n c : Nat) (k0 : Int) (w : World) (h : RS w w.heap.size A n (marksS k0 n)) (hn : n ≤ 2097152) (h0 : 0 ≤ k0) (h1 : k0 ≤ 100000000) :
    Calls Try.prog 40 #[.slice A n c, .int .i64 k0] w fun e w' => e = .returned (.int .i64 (k0 + 8 * n)) ∧ Below w.heap.size w w' := by
  have HR := hide h; clear h
  go_enter Try.func40, Try.ntmps40
  go_wp2
  go_loopw [1, 5] (fun q i wr => ∃ k : Nat, k ≤ n ∧ i = .int .i64 k ∧ q = .int .i64 (k0 + 8 * k) ∧ Hid (Below w.heap.size w wr)) (fun _ i _ => n - (intOf i).toNat)
  case atStart => exact ⟨0, Nat.zero_le _, rfl, by simp, Below.refl _ _⟩
  case round =>
    obtain ⟨k, hk, rfl, rfl, hB⟩ := hrel
    by_cases hlt : k < n
    · obtain ⟨ad, s, rfl, hbx, hx, hrow⟩ := ((unhide HR).below (unhide hB)).get hlt
      have hb1 : (ad.add (k * 8)).block < wr.heap.size := by rw [block_of_add]; exact Nat.lt_of_lt_of_le hbx (unhide hB).size
      have e := unhide hx
      rw [marksS_get _ _ _ hlt] at e
      obtain rfl : mkSt (k0 + 8 * (k : Int)) = s := Option.some.inj e
      have HP := hide (fun z : Abv wr => hrow.abv hb1 z)
      obtain ⟨c0, _, _, _, _, _, _, _⟩ := hrow
      have l1 : (k : Int) < (n : Int) := by omega
      have l2 : (0 : Int) ≤ (k : Int) := by omega
      have HM := hide (fun W => markText_int (k0 + 8 * k + 1) W (by omega) (by omega))
      have HEN : Hid (k0 + 8 * (k : Int) + 1 + 1 + 1 + 1 + 1 + 1 + 1 + 1 = k0 + 8 * ((k + 1 : Nat) : Int)) := by unfold Hid; omega
      have hm0 : 0 ≤ k0 + 8 * (k : Int) := by omega
      have hm1 : k0 + 8 * (k : Int) ≤ 200000000 := by omega
      clear hx e hb1
      generalize k0 + 8 * (k : Int) = m at *
      have HP2 : Hid (∀ z : Abv wr, Row8 z.w (ad.add (k * 8)) ⟨m, mtxt (m + 1).toNat, m + 1 + 1, m + 1 + 1 + 1, m + 1 + 1 + 1 + 1, m + 1 + 1 + 1 + 1 + 1, m + 1 + 1 + 1 + 1 + 1 + 1, m + 1 + 1 + 1 + 1 + 1 + 1 + 1⟩) := unhide HP
      have ht : ((mtxt (m + 1).toNat).toList != (mtxt (m + 1).toNat).toList) = false := by simp
      clear HP
      generalize mtxt (m + 1).toNat = z at *
      have t0 : (m != m) = false := by simp
      have t2 : (m + 1 + 1 != m + 1 + 1) = false := by simp
      have t3 : (m + 1 + 1 + 1 != m + 1 + 1 + 1) = false := by simp
      have t4 : (m + 1 + 1 + 1 + 1 != m + 1 + 1 + 1 + 1) = false := by simp
      have t5 : (m + 1 + 1 + 1 + 1 + 1 != m + 1 + 1 + 1 + 1 + 1) = false := by simp
      have t6 : (m + 1 + 1 + 1 + 1 + 1 + 1 != m + 1 + 1 + 1 + 1 + 1 + 1) = false := by simp
      have t7 : (m + 1 + 1 + 1 + 1 + 1 + 1 + 1 != m + 1 + 1 + 1 + 1 + 1 + 1 + 1) = false := by simp
      have d0 : wr.cell? (ad.add (k * 8)) = some (.int .i64 m) := c0
      clear c0
      have p1 := fun s : Abv wr => (unhide HP2 s).c1
      go_wp2_with fail
      refine wp_region_abv wr (by kernel_rfl) (by kernel_rfl) (Below.refl _ _) ?_
      repeat (go_big_quiet_step ((first | (go_at_call 87; exact Calls.abv (unhide HM _)))))
      refine wpQuiet_nil ?_
      intro _ hw'
      obtain ⟨s, hw''⟩ := hw'
      subst hw''
      obtain ⟨_, _, d2, d3, d4, d5, d6, d7⟩ := unhide HP2 s
      clear p1 d0
      go_wp2_with fail
      go_roundw
      case rel => exact ⟨k + 1, by omega, by go_num, by rw [unhide HEN], below_next (unhide hB) s.h⟩
      case measure => simp [intOf]; omega
    · have e : k = n := by omega
      subst e
      go_wp2_with fail
      go_ret
      exact ⟨rfl, unhide hB⟩
end Go.Proofs.Ytihkocplgciifaa
