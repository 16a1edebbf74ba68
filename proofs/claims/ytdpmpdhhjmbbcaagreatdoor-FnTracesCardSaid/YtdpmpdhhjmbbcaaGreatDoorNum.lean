/- Chapter 1: the text of a number: the reference's way and strconv's. -/
import Derived.Test.YtdpmpdhhjmbbcaaGreatDoorProg
import Derived.Test.YtdpmpdhhjmbbcaaGreatDoorHas
import Derived.Test.YtdpmpdhhjmbbcaaGreatDoorReadPlain
import Derived.Test.YtdpmpdhhjmbbcaaGreatDoorShelf
import Derived.Lib.ItoaLen
import Derived.Lib.ItoaMem
import Derived.Lib.SmallJoins
import Derived.Deep.QuietTactic
import Derived.BigQuiet
namespace Go.Proofs.YtdpmpdhhjmbbcaaGreatDoor
open Go.RowKit

theorem numB_size (n : Int) (h0 : -9223372036854775808 ≤ n) (h1 : n ≤ 9223372036854775807) : (numB n).size ≤ 21 := by
  rw [Lib.size_eq, numB_data]
  exact Lib.itoa_length_le n h0 h1
/-- the ten digits -/
def digsB : ByteArray := ⟨#[48, 49, 50, 51, 52, 53, 54, 55, 56, 57]⟩
theorem digit_piece (d : Nat) (h : d < 10) : digsB.extract d (d + 1) = ⟨#[UInt8.ofNat (48 + d)]⟩ := by
  apply bytes_ext
  rw [Lib.extract_data]
  rcases (show d = 0 ∨ d = 1 ∨ d = 2 ∨ d = 3 ∨ d = 4 ∨ d = 5 ∨ d = 6 ∨ d = 7 ∨ d = 8 ∨ d = 9 by omega) with rfl | rfl | rfl | rfl | rfl | rfl | rfl | rfl | rfl | rfl <;> rfl
theorem numB_small (d : Nat) (h : d < 10) : numB (d : Int) = digsB.extract d (d + 1) := by
  rw [digit_piece d h]
  unfold numB
  rw [Lib.itoa_nonneg, Lib.decDigits_one h]
theorem numB_step (u : Nat) (h : ¬ u < 10) : numB (u : Int) = numB ((u / 10 : Nat) : Int) ++ digsB.extract (u % 10) (u % 10 + 1) := by
  rw [digit_piece _ (Nat.mod_lt _ (by omega))]
  apply bytes_ext
  rw [ByteArray.data_append, Array.toList_append, numB_data, numB_data, Lib.itoa_nonneg, Lib.itoa_nonneg]
  conv => lhs; rw [Lib.decDigits]
  rw [dif_neg h]
theorem numB_neg (u : Nat) (h : 1 ≤ u) : numB (-(u : Int)) = ⟨#[45]⟩ ++ numB (u : Int) := by
  apply bytes_ext
  rw [ByteArray.data_append, Array.toList_append, numB_data, numB_data, Lib.itoa_neg u h, Lib.itoa_nonneg]
  rfl

set_option maxHeartbeats 1000000 in
set_option maxRecDepth 100000 in
theorem l1Num_nat (u : Nat) : u ≤ 1000000000000 → ∀ (w : World), Calls Tryz.prog 53 #[.int .i64 (u : Int)] w fun e w' => e = .returned (.string (numB (u : Int))) ∧ ∃ m, w' = w.drewN m := by
  induction u using Nat.strongRecOn with
  | _ u ih =>
    intro hu w
    by_cases h : u < 10
    · have HE : Hid (numB (u : Int) = (⟨#[48, 49, 50, 51, 52, 53, 54, 55, 56, 57]⟩ : ByteArray).extract u (u + 1)) := numB_small u h
      clear ih
      have l1 : u ≤ u + 1 := by omega
      have l2 : u + 1 ≤ 10 := by omega
      go_enter Tryz.func53, Tryz.ntmps53
      go_wp2
      go_ret
      rw [unhide HE]
      exact ⟨rfl, 0, rfl⟩
    · have HE : Hid (numB (u : Int) = numB ((u / 10 : Nat) : Int) ++ (⟨#[48, 49, 50, 51, 52, 53, 54, 55, 56, 57]⟩ : ByteArray).extract (u % 10) (u % 10 + 1)) := numB_step u h
      have IH := hide (ih (u / 10) (by omega) (by omega))
      clear ih
      have hsz := numB_size ((u / 10 : Nat) : Int) (by omega) (by omega)
      have ex : (((u / 10 : Nat) : Int)) = (u : Int) / 10 := by omega
      generalize hx : (u : Int) / 10 = x at ex
      rw [ex] at IH hsz HE
      have hy : u % 10 < 10 := Nat.mod_lt _ (by omega)
      have ey : (u : Int) % 10 = ((u % 10 : Nat) : Int) := by omega
      have T1 : Hid (IntKind.i64.wrap ((u : Int) / 10) = x) := by unfold Hid; rw [IntWalk.i64_in _ (by omega)]; exact hx
      have T2 : Hid ((u : Int).tmod 10 = ((u % 10 : Nat) : Int)) := by unfold Hid; rw [Int.tmod_eq_emod_of_nonneg (by omega)]; exact ey
      have T4 : Hid ((u : Int) % 10 = ((u % 10 : Nat) : Int)) := ey
      clear ex hx ey
      have h10 : ¬ (u : Int) < 10 := by omega
      have h0 : ¬ (u : Int) < 0 := by omega
      generalize u % 10 = d at *
      have T3 : Hid (IntKind.i64.wrap ((d : Int) + 1) = ((d + 1 : Nat) : Int)) := by unfold Hid; rw [IntWalk.i64_in _ (by omega)]; omega
      have l2 : d + 1 ≤ 10 := by omega
      have l3 : d ≤ d + 1 := by omega
      go_enter Tryz.func53, Tryz.ntmps53
      go_wp2
      have s1 := unhide T1
      have s2 := unhide T2
      have s3 := unhide T3
      have s4 := unhide T4
      go_quiet ((go_at_call 53; exact Calls.quiet_of (unhide IH _)))
      clear s1 s2 s3 s4
      go_wp2
      go_ret
      rw [unhide HE]
      exact ⟨rfl, _, rfl⟩

set_option maxHeartbeats 1000000 in
theorem l1Num_any (n : Int) (w : World) (h0 : -1000000000000 ≤ n) (h1 : n ≤ 1000000000000) : Calls Tryz.prog 53 #[.int .i64 n] w fun e w' => e = .returned (.string (numB n)) ∧ ∃ m, w' = w.drewN m := by
  by_cases h : n < 0
  · obtain ⟨u, rfl⟩ : ∃ u : Nat, n = -(u : Int) := ⟨n.natAbs, by omega⟩
    have HE := hide (numB_neg u (by omega))
    have HC := hide (l1Num_nat u (by omega))
    have hsz := numB_size (u : Int) (by omega) (by omega)
    go_enter Tryz.func53, Tryz.ntmps53
    have s1 : - -(u : Int) = (u : Int) := Int.neg_neg _
    go_wp2_with fail
    refine (unhide HC _).mono ?_
    rintro e w1 ⟨rfl, m, rfl⟩
    go_wp2_with fail
    go_ret
    rw [unhide HE]
    exact ⟨rfl, _, rfl⟩
  · obtain ⟨u, rfl⟩ : ∃ u : Nat, n = (u : Int) := ⟨n.toNat, by omega⟩
    exact l1Num_nat u (by omega) w

theorem below_grow (w : World) (k : Nat) (os : Array Obj) : Below w.heap.size w (Sort.grow (w.drewN k) os) :=
  ⟨rfl, rfl, rfl, by simp [Sort.grow], fun i hi => by
    show (w.heap ++ os)[i]? = w.heap[i]?
    rw [Array.getElem?_append_left hi]⟩
/-- the table that strconv counts digits by -/
def Tab (w : World) : Prop := Lib.TabIs Tryz.prog w "internal/strconv.uint64pow10" .u64 Lib.pow10Tab
theorem gTab : ∃ g, Tryz.prog.globalNamed "internal/strconv.uint64pow10" = some g := Option.isSome_iff_exists.1 (by kernel_rfl)
theorem Tab.stays {w w' : World} (h : Tab w) (hb : Below w.heap.size w w') : Tab w' := by
  obtain ⟨g, hg⟩ := gTab
  exact Joins.tab_stays hg h hb (Nat.le_refl _)
theorem Itoa_any (n : Int) (w : World) (h0 : -9223372036854775808 ≤ n) (h1 : n ≤ 9223372036854775807) (ht : Tab w) : Calls Tryz.prog 45 #[.int .i64 n] w fun e w' => e = .returned (.string (numB n)) ∧ Below w.heap.size w w' :=
  (Tryz.strconv_Itoa n h0 h1 w ht).mono fun _ _ ⟨a, k, os, b⟩ => ⟨a, by subst b; exact below_grow _ _ _⟩

/-- a number's text, whether it has one -/
def fmtR (n : Int) : ByteArray × Bool := if inB n (-999999) 999999 = true then (numB n, true) else (ByteArray.empty, false)
end Go.Proofs.YtdpmpdhhjmbbcaaGreatDoor
