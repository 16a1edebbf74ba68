/- Chapter 2, the walks: sums, the greatest common divisor, fractions in lowest terms. -/
import Derived.Test.YtdpmpdhhjmbbcaaProg
import Derived.Test.YtdpmpdhhjmbbcaaTraceC
namespace Go.Proofs.Ytdpmpdhhjmbbcaa
open Go.RowKit

theorem gcd_step (a b : Int) : Int.gcd b (a.tmod b) = Int.gcd a b := by
  unfold Int.gcd
  rw [Int.natAbs_tmod, Nat.gcd_comm, ← Nat.gcd_rec, Nat.gcd_comm]
theorem tmod_less {a b : Int} (h : b ≠ 0) : (a.tmod b).natAbs < b.natAbs := by
  rw [Int.natAbs_tmod]
  exact Nat.mod_lt _ (by omega)
theorem gcd_pos {a b : Int} (h : 0 < b) : 0 < Int.gcd a b := by
  unfold Int.gcd
  exact Nat.gcd_pos_of_pos_right _ (by omega)
theorem gcd_le {a b : Int} (h : 0 < b) : (Int.gcd a b : Int) ≤ b := by
  have : Int.gcd a b ≤ b.natAbs := Nat.gcd_le_right _ (by omega)
  omega

theorem gcd_any (x y : Int) (w : World) (h0 : -1000000000 ≤ x ∧ x ≤ 1000000000) (h1 : -1000000000 ≤ y ∧ y ≤ 1000000000) :
    Calls Try.prog 72 #[.int .i64 x, .int .i64 y] w fun e w' => e = .returned (.int .i64 (Int.gcd x y : Nat)) ∧ Below w.heap.size w w' := by
  go_enter Try.func72, Try.ntmps72
  go_wp2
  go_loopw [0, 1] (fun p q wr => ∃ a b : Int, p = .int .i64 a ∧ q = .int .i64 b ∧ -1000000000 ≤ a ∧ a ≤ 1000000000 ∧ -1000000000 ≤ b ∧ b ≤ 1000000000 ∧ Hid (Int.gcd a b = Int.gcd x y) ∧ Hid (Below w.heap.size w wr)) (fun _ q _ => (intOf q).natAbs)
  case atStart => exact ⟨x, y, rfl, rfl, h0.1, h0.2, h1.1, h1.2, rfl, Below.refl _ _⟩
  case round =>
    obtain ⟨a, b, rfl, rfl, a0, a1, b0, b1, hg, hB⟩ := hrel
    by_cases hz : b = 0
    · subst hz
      go_wp2_with (go_at_call 57; refine (abs_any _ _ (by omega) (by omega)).mono ?_; rintro e w' ⟨rfl, rfl⟩)
      go_ret
      exact ⟨ret_int (by rw [← unhide hg, Int.gcd_zero_right]; omega), unhide hB⟩
    · have HL := hide (tmod_less (a := a) hz)
      have HS := hide ((gcd_step a b).trans (unhide hg))
      have hlt := tmod_less (a := a) hz
      have s1 : IntKind.i64.wrap (a.tmod b) = a.tmod b := IntWalk.i64_in _ (by omega)
      obtain ⟨r, hr⟩ : ∃ r, r = a.tmod b := ⟨_, rfl⟩
      rw [← hr] at hlt
      go_wp2
      go_quiet (fail)
      go_wp2
      go_roundw
      case rel => exact ⟨b, a.tmod b, rfl, by go_num, b0, b1, by omega, by omega, HS, below_drewN (unhide hB) _⟩
      case measure => simpa [intOf] using unhide HL

/-- a fraction in lowest terms comes back -/
def RetFr (w : World) (x y : Int) (e : Ending) (w' : World) : Prop := e = .returned (.tuple #[.int .i64 (x.tdiv (Int.gcd x y : Nat)), .int .i64 (y.tdiv (Int.gcd x y : Nat))]) ∧ Below w.heap.size w w'

theorem fraction_any (x y : Int) (w : World) (h0 : -1000000000 ≤ x ∧ x ≤ 1000000000) (h1 : 1 ≤ y ∧ y ≤ 1000000000) :
    Calls Try.prog 59 #[.int .i64 x, .int .i64 y] w (RetFr w x y) := by
  have hg0 := gcd_pos (a := x) (b := y) (by omega)
  have HG := hide (gcd_any x y w h0 (by omega))
  unfold RetFr
  generalize Int.gcd x y = g at *
  have s1 : IntKind.i64.wrap (x.tdiv (g : Int)) = x.tdiv (g : Int) := IntWalk.i64_quo' _ _ (by omega)
  have s2 : IntKind.i64.wrap (y.tdiv (g : Int)) = y.tdiv (g : Int) := IntWalk.i64_quo' _ _ (by omega)
  have hz : ((g : Int) == 0) = false := by simp; omega
  have hz2 : ¬ (g : Int) = 0 := by omega
  have hz3 : ¬ g = 0 := by omega
  obtain ⟨q1, e1⟩ : ∃ q, q = x.tdiv (g : Int) := ⟨_, rfl⟩
  obtain ⟨q2, e2⟩ : ∃ q, q = y.tdiv (g : Int) := ⟨_, rfl⟩
  go_enter Try.func59, Try.ntmps59
  go_wp2_with (go_at_call 72; refine (unhide HG).mono ?_; rintro e w1 ⟨rfl, hb⟩; have HB := hide hb; clear hb)
  go_quiet (fail)
  clear s1 s2
  go_wp2
  go_ret2
  exact ⟨by simp [Int.tdiv_eq_ediv_of_nonneg, *], below_drewN (unhide HB) _⟩
theorem sum_step (xs : List Int) (k : Nat) (x : Int) (hx : xs[k]? = some x) : (xs.take (k + 1)).sum = (xs.take k).sum + x := by
  rw [List.take_add_one, hx, List.sum_append]
  simp

theorem sum_any (A : Option Addr) (n c L : Nat) (xs : List Int) (w : World) (hr : RI w L A n xs) (hn : n ≤ 24) (hs : ∀ x ∈ xs, -100000 ≤ x ∧ x ≤ 100000) :
    Calls Try.prog 60 #[.slice A n c] w fun e w' => e = .returned (.int .i64 xs.sum) ∧ w = w' := by
  have HR := hide hr
  have HS := hide hs
  clear hr hs
  go_enter Try.func60, Try.ntmps60
  go_wp2
  go_loop [3, 8] (fun t i => ∃ (k : Nat) (s : Int), k ≤ n ∧ i = .int .i64 k ∧ t = .int .i64 s ∧ -100000 * (k : Int) ≤ s ∧ s ≤ 100000 * k ∧ Hid (s = (xs.take k).sum)) (fun _ i => n - (intOf i).toNat)
  case atStart => exact ⟨0, 0, Nat.zero_le _, rfl, rfl, by omega, by omega, by simp [Hid]⟩
  case round =>
    obtain ⟨k, s, hk, rfl, rfl, s0, s1, hs⟩ := hrel
    by_cases hlt : k < n
    · obtain ⟨ad, x, rfl, _, hx, hc⟩ := (unhide HR).get hlt
      have bx := unhide HS x (List.mem_of_getElem? (unhide hx))
      have HE := hide (sum_step xs k x (unhide hx))
      clear hx
      go_wp2
      go_round
      case rel => exact ⟨k + 1, s + x, by omega, by go_num, rfl, by omega, by omega, by rw [Hid, unhide HE, ← unhide hs]⟩
      case measure => simp [intOf]; omega
    · have e : k = n := by omega
      subst e
      have HE : Hid (s = xs.sum) := by
        have hl := (unhide HR).len
        have := unhide hs
        rwa [List.take_of_length_le (by omega)] at this
      clear hs
      go_wp2
      go_ret
      exact ⟨ret_int (unhide HE), rfl⟩
theorem sum_bound (xs : List Int) (n : Nat) (hl : xs.length = n) (hs : ∀ x ∈ xs, -100000 ≤ x ∧ x ≤ 100000) : -100000 * (n : Int) ≤ xs.sum ∧ xs.sum ≤ 100000 * n := by
  induction xs generalizing n with
  | nil => subst hl; simp
  | cons x xs ih =>
    have h1 := ih xs.length rfl (fun y hy => hs y (List.mem_cons_of_mem _ hy))
    have h2 := hs x (List.mem_cons_self ..)
    simp at hl
    rw [List.sum_cons]
    omega

theorem l2Reduce_any (x y : Int) (w : World) (h0 : -1000000000 ≤ x ∧ x ≤ 1000000000) (h1 : 1 ≤ y ∧ y ≤ 1000000000) :
    Calls Try.prog 58 #[.int .i64 x, .int .i64 y] w (RetFr w x y) := by
  have hg0 := gcd_pos (a := x) (b := y) (by omega)
  obtain ⟨g, hg⟩ : ∃ g, g = Int.gcd x y := ⟨_, rfl⟩
  unfold RetFr
  rw [← hg] at hg0 ⊢
  obtain ⟨M, hM⟩ : ∃ M : Int, M = max x (-x) := ⟨_, rfl⟩
  have hgM : Hid (Int.gcd M y = g) := by
    unfold Hid
    rw [hg]
    unfold Int.gcd
    rw [show M.natAbs = x.natAbs by omega]
  have CM : Hid (∀ W, Calls Try.prog 69 #[.int .i64 x, .int .i64 (-x)] W fun e w' => e = .returned (.int .i64 M) ∧ W = w') := by intro W; rw [hM]; exact l1Most_any _ _ _
  have m0 : 0 ≤ M ∧ M ≤ 1000000000 := by omega
  clear hM hg
  go_enter Try.func58, Try.ntmps58
  go_wp2_with (go_at_call 69; refine (unhide CM _).mono ?_; rintro e w1 ⟨rfl, rfl⟩)
  go_loop [6, 7] (fun p q => ∃ a b : Int, p = .int .i64 a ∧ q = .int .i64 b ∧ 0 ≤ a ∧ a ≤ 1000000000 ∧ 0 ≤ b ∧ b ≤ 1000000000 ∧ Hid (Int.gcd a b = g)) (fun _ q => (intOf q).natAbs)
  case atStart => exact ⟨M, y, rfl, rfl, m0.1, m0.2, by omega, h1.2, hgM⟩
  case round =>
    obtain ⟨a, b, rfl, rfl, a0, a1, b0, b1, hgab⟩ := hrel
    by_cases hz : b = 0
    · subst hz
      obtain rfl : a = (g : Int) := by have := unhide hgab; rw [Int.gcd_zero_right] at this; omega
      have s1 : IntKind.i64.wrap (x.tdiv (g : Int)) = x.tdiv (g : Int) := IntWalk.i64_quo' _ _ (by omega)
      have s2 : IntKind.i64.wrap (y.tdiv (g : Int)) = y.tdiv (g : Int) := IntWalk.i64_quo' _ _ (by omega)
      have hz1 : ((g : Int) == 0) = false := by simp; omega
      have hz2 : ¬ (g : Int) = 0 := by omega
      have hz3 : ¬ g = 0 := by omega
      go_wp2
      go_quiet (fail)
      clear s1 s2
      go_wp2
      go_ret2
      exact ⟨by simp [Int.tdiv_eq_ediv_of_nonneg, *], below_drewN (Below.refl _ _) _⟩
    · have HL := hide (tmod_less (a := a) hz)
      have HS := hide ((gcd_step a b).trans (unhide hgab))
      have hlt := tmod_less (a := a) hz
      have hnn : 0 ≤ a.tmod b := Int.tmod_nonneg b a0
      have s1 : IntKind.i64.wrap (a.tmod b) = a.tmod b := IntWalk.i64_in _ (by omega)
      have HN := hide hnn
      have HM : Hid (a.tmod b ≤ 1000000000) := by unfold Hid; omega
      go_wp2
      go_round
      case rel => exact ⟨b, a.tmod b, rfl, by first | rfl | (rw [Int.tmod_eq_emod_of_nonneg a0]) | simp [Int.tmod_eq_emod_of_nonneg a0], b0, b1, unhide HN, unhide HM, HS⟩
      case measure => (have h9 := unhide HL; rw [Int.tmod_eq_emod_of_nonneg a0] at h9; simpa only [intOf] using h9)
end Go.Proofs.Ytdpmpdhhjmbbcaa
