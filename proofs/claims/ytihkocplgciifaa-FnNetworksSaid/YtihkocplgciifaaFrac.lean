/- The walks of the greatest common divisor and of fractions in lowest terms. -/
import Derived.Test.YtihkocplgciifaaProg
import Derived.Test.YtihkocplgciifaaBase
namespace Go.Proofs.Ytihkocplgciifaa
open Go.RowKit

theorem below_drewN' {B : Nat} {a w : World} (h : Below B a w) (n : Nat) : Below B a (w.drewN n) := ⟨h.os, h.tape, h.output, h.size, h.block⟩
theorem gcd_step (a b : Int) : Int.gcd b (a.tmod b) = Int.gcd a b := by
  unfold Int.gcd
  rw [Int.natAbs_tmod, Nat.gcd_comm, ← Nat.gcd_rec, Nat.gcd_comm]
theorem tmod_less {a b : Int} (h : b ≠ 0) : (a.tmod b).natAbs < b.natAbs := by
  rw [Int.natAbs_tmod]
  exact Nat.mod_lt _ (by omega)
theorem gcd_pos {a b : Int} (h : 0 < b) : 0 < Int.gcd a b := by
  unfold Int.gcd
  exact Nat.gcd_pos_of_pos_right _ (by omega)
theorem gcd_le {a b : Int} (h : 0 < b) : (Int.gcd a b : Int) ≤ b := by
  have : Int.gcd a b ≤ b.natAbs := Nat.gcd_le_right _ (by omega)
  omega

theorem gcd_any (x y : Int) (w : World) (h0 : -1000000000 ≤ x ∧ x ≤ 1000000000) (h1 : -1000000000 ≤ y ∧ y ≤ 1000000000) :
    Calls Try.prog 111 #[.int .i64 x, .int .i64 y] w fun e w' => e = .returned (.int .i64 (Int.gcd x y : Nat)) ∧ Below w.heap.size w w' := by
  go_enter Try.func111, Try.ntmps111
  go_wp2
  go_loopw [0, 1] (fun p q wr => ∃ a b : Int, p = .int .i64 a ∧ q = .int .i64 b ∧ -1000000000 ≤ a ∧ a ≤ 1000000000 ∧ -1000000000 ≤ b ∧ b ≤ 1000000000 ∧ Hid (Int.gcd a b = Int.gcd x y) ∧ Hid (Below w.heap.size w wr)) (fun _ q _ => (intOf q).natAbs)
  case atStart => exact ⟨x, y, rfl, rfl, h0.1, h0.2, h1.1, h1.2, rfl, Below.refl _ _⟩
  case round =>
    obtain ⟨a, b, rfl, rfl, a0, a1, b0, b1, hg, hB⟩ := hrel
    by_cases hz : b = 0
    · subst hz
      go_wp2_with (go_at_call 118; refine (abs_any _ _ (by omega) (by omega)).mono ?_; rintro e w' ⟨rfl, rfl⟩)
      go_ret
      exact ⟨ret_int (by rw [← unhide hg, Int.gcd_zero_right]; omega), unhide hB⟩
    · have HL := hide (tmod_less (a := a) hz)
      have HS := hide ((gcd_step a b).trans (unhide hg))
      have hlt := tmod_less (a := a) hz
      have s1 : IntKind.i64.wrap (a.tmod b) = a.tmod b := IntWalk.i64_in _ (by omega)
      obtain ⟨r, hr⟩ : ∃ r, r = a.tmod b := ⟨_, rfl⟩
      rw [← hr] at hlt
      go_wp2
      go_quiet (fail)
      go_wp2
      go_roundw
      case rel => exact ⟨b, a.tmod b, rfl, by go_num, b0, b1, by omega, by omega, HS, below_drewN (unhide hB) _⟩
      case measure => simpa [intOf] using unhide HL

/-- a fraction in lowest terms comes back -/
def RetFr (w : World) (x y : Int) (e : Ending) (w' : World) : Prop := e = .returned (.tuple #[.int .i64 (x.tdiv (Int.gcd x y : Nat)), .int .i64 (y.tdiv (Int.gcd x y : Nat))]) ∧ Below w.heap.size w w'

theorem fraction_any (x y : Int) (w : World) (h0 : -1000000000 ≤ x ∧ x ≤ 1000000000) (h1 : 1 ≤ y ∧ y ≤ 1000000000) :
    Calls Try.prog 78 #[.int .i64 x, .int .i64 y] w (RetFr w x y) := by
  have hg0 := gcd_pos (a := x) (b := y) (by omega)
  have HG := hide (gcd_any x y w h0 (by omega))
  unfold RetFr
  generalize Int.gcd x y = g at *
  have s1 : IntKind.i64.wrap (x.tdiv (g : Int)) = x.tdiv (g : Int) := IntWalk.i64_quo' _ _ (by omega)
  have s2 : IntKind.i64.wrap (y.tdiv (g : Int)) = y.tdiv (g : Int) := IntWalk.i64_quo' _ _ (by omega)
  have hz : ((g : Int) == 0) = false := by simp; omega
  have hz2 : ¬ (g : Int) = 0 := by omega
  have hz3 : ¬ g = 0 := by omega
  obtain ⟨q1, e1⟩ : ∃ q, q = x.tdiv (g : Int) := ⟨_, rfl⟩
  obtain ⟨q2, e2⟩ : ∃ q, q = y.tdiv (g : Int) := ⟨_, rfl⟩
  go_enter Try.func78, Try.ntmps78
  go_wp2_with (go_at_call 111; refine (unhide HG).mono ?_; rintro e w1 ⟨rfl, hb⟩; have HB := hide hb; clear hb)
  go_quiet (fail)
  clear s1 s2
  go_wp2
  go_ret2
  exact ⟨by simp [Int.tdiv_eq_ediv_of_nonneg, *], below_drewN (unhide HB) _⟩
theorem l2Reduce_any (x y : Int) (w : World) (h0 : -1000000000 ≤ x ∧ x ≤ 1000000000) (h1 : 1 ≤ y ∧ y ≤ 1000000000) :
    Calls Try.prog 76 #[.int .i64 x, .int .i64 y] w (RetFr w x y) := by
  have hg0 := gcd_pos (a := x) (b := y) (by omega)
  obtain ⟨g, hg⟩ : ∃ g, g = Int.gcd x y := ⟨_, rfl⟩
  unfold RetFr
  rw [← hg] at hg0 ⊢
  obtain ⟨M, hM⟩ : ∃ M : Int, M = max x (-x) := ⟨_, rfl⟩
  have hgM : Hid (Int.gcd M y = g) := by
    unfold Hid
    rw [hg]
    unfold Int.gcd
    rw [show M.natAbs = x.natAbs by omega]
  have CM : Hid (∀ W, Calls Try.prog 77 #[.int .i64 x, .int .i64 (-x)] W fun e w' => e = .returned (.int .i64 M) ∧ W = w') := by intro W; rw [hM]; exact l1Most_any _ _ _
  have m0 : 0 ≤ M ∧ M ≤ 1000000000 := by omega
  clear hM hg
  go_enter Try.func76, Try.ntmps76
  go_wp2_with (go_at_call 77; refine (unhide CM _).mono ?_; rintro e w1 ⟨rfl, rfl⟩)
  go_loop [6, 7] (fun p q => ∃ a b : Int, p = .int .i64 a ∧ q = .int .i64 b ∧ 0 ≤ a ∧ a ≤ 1000000000 ∧ 0 ≤ b ∧ b ≤ 1000000000 ∧ Hid (Int.gcd a b = g)) (fun _ q => (intOf q).natAbs)
  case atStart => exact ⟨M, y, rfl, rfl, m0.1, m0.2, by omega, h1.2, hgM⟩
  case round =>
    obtain ⟨a, b, rfl, rfl, a0, a1, b0, b1, hgab⟩ := hrel
    by_cases hz : b = 0
    · subst hz
      obtain rfl : a = (g : Int) := by have := unhide hgab; rw [Int.gcd_zero_right] at this; omega
      have s1 : IntKind.i64.wrap (x.tdiv (g : Int)) = x.tdiv (g : Int) := IntWalk.i64_quo' _ _ (by omega)
      have s2 : IntKind.i64.wrap (y.tdiv (g : Int)) = y.tdiv (g : Int) := IntWalk.i64_quo' _ _ (by omega)
      have hz1 : ((g : Int) == 0) = false := by simp; omega
      have hz2 : ¬ (g : Int) = 0 := by omega
      have hz3 : ¬ g = 0 := by omega
      go_wp2
      go_quiet (fail)
      clear s1 s2
      go_wp2
      go_ret2
      exact ⟨by simp [Int.tdiv_eq_ediv_of_nonneg, *], below_drewN (Below.refl _ _) _⟩
    · have HL := hide (tmod_less (a := a) hz)
      have HS := hide ((gcd_step a b).trans (unhide hgab))
      have hlt := tmod_less (a := a) hz
      have hnn : 0 ≤ a.tmod b := Int.tmod_nonneg b a0
      have s1 : IntKind.i64.wrap (a.tmod b) = a.tmod b := IntWalk.i64_in _ (by omega)
      have HN := hide hnn
      have HM : Hid (a.tmod b ≤ 1000000000) := by unfold Hid; omega
      go_wp2
      go_round
      case rel => exact ⟨b, a.tmod b, rfl, by first | rfl | (rw [Int.tmod_eq_emod_of_nonneg a0]) | simp [Int.tmod_eq_emod_of_nonneg a0], b0, b1, unhide HN, unhide HM, HS⟩
      case measure => (have h9 := unhide HL; rw [Int.tmod_eq_emod_of_nonneg a0] at h9; simpa only [intOf] using h9)
end Go.Proofs.Ytihkocplgciifaa
