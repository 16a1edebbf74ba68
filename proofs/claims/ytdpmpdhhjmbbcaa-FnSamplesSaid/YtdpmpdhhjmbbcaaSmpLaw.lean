/- Chapter 2, plain: what the law of samples says: the largest sample, the mean of a trace less by a level. -/
import Derived.Test.YtdpmpdhhjmbbcaaProg
import Derived.Test.YtdpmpdhhjmbbcaaTraceC
import Derived.Test.YtdpmpdhhjmbbcaaTraceE
import Derived.Test.YtdpmpdhhjmbbcaaTraceH
namespace Go.Proofs.Ytdpmpdhhjmbbcaa
open Go.RowKit

def absI (x : Int) : Int := max x (-x)
theorem best_ge (xs : List Int) : ∀ (k j : Nat), j < k → absI (xs.getD j 0) ≤ absI (xs.getD (bestOf xs k) 0)
  | 0, j, h => by omega
  | k + 1, j, h => by
    unfold bestOf bestStep
    have ih := best_ge xs k
    rcases Nat.lt_or_ge j k with h9 | h9
    · have := ih j h9
      unfold absI at this ⊢
      split <;> omega
    · obtain rfl : j = k := by omega
      unfold absI
      split <;> omega
theorem lg_yes {st sa t m : Int} {xs : List Int} (h : lgR st sa xs = (t, m, true)) : atB st sa xs t = true ∧ xs.getD (t - sa).toNat 0 = m ∧ (-100000 ≤ m ∧ m ≤ 100000) ∧ ∀ (k : Nat) (x : Int), xs[k]? = some x → (-100000 ≤ x ∧ x ≤ 100000) ∧ absI x ≤ absI m := by
  unfold lgR at h
  split at h
  · rename_i h9
    rw [Bool.and_eq_true] at h9
    have hl := of_decide_eq_true h9.2
    have hb := bestOf_lt xs (Nat.le_refl xs.length) hl
    have hg := goodB_parts h9.1
    have ha := smpB_all hg.2.2.1
    have hmem : ∀ (k : Nat) (x : Int), xs[k]? = some x → -100000 ≤ x ∧ x ≤ 100000 := fun k x hx => ha x (List.mem_of_getElem? hx)
    injection h with e1 e2
    injection e2 with e2 _
    subst e1
    have e3 : (sa + (bestOf xs xs.length : Nat) - sa : Int).toNat = bestOf xs xs.length := by omega
    refine ⟨?_, by rw [e3]; exact e2, ?_, fun k x hx => ⟨hmem k x hx, ?_⟩⟩
    · unfold atB
      rw [h9.1, Bool.true_and]
      exact inB_iff.2 ⟨by omega, by omega⟩
    · rw [← e2, List.getD_eq_getElem?_getD, List.getElem?_eq_getElem hb]
      exact ha _ (List.getElem_mem hb)
    · have h8 := best_ge xs xs.length k (List.getElem?_eq_some_iff.1 hx).1
      rw [e2, List.getD_eq_getElem?_getD, hx] at h8
      exact h8
  · cases h
theorem less_sum (xs : List Int) (lv : Int) : (lessI xs lv).sum = xs.sum - xs.length * lv := by
  unfold lessI
  induction xs with
  | nil => simp
  | cons x l ih =>
    rw [List.map_cons, List.sum_cons, ih, List.sum_cons, List.length_cons]
    have e : ((l.length + 1 : Nat) : Int) * lv = l.length * lv + lv := by
      push_cast
      rw [Int.add_mul, Int.one_mul]
    rw [e]
    omega
theorem sum_within {xs : List Int} (h : ∀ x ∈ xs, -100000 ≤ x ∧ x ≤ 100000) : -(100000 * (xs.length : Int)) ≤ xs.sum ∧ xs.sum ≤ 100000 * (xs.length : Int) := by
  induction xs with
  | nil => simp
  | cons x l ih =>
    have h1 := h x (List.mem_cons_self ..)
    have h2 := ih fun y hy => h y (List.mem_cons_of_mem _ hy)
    rw [List.sum_cons, List.length_cons]
    push_cast
    omega
/-- a mean in lowest terms: numerator by n is the sum by the denominator -/
theorem mean_yes {st sa : Int} {xs : List Int} (hg : goodB st sa xs = true) (hl : 0 < xs.length) : ∃ p q : Int, mnR st sa xs = (p, q, true) ∧ p * xs.length = xs.sum * q ∧ (1 ≤ q ∧ q ≤ 24) ∧ (-2400000 ≤ p ∧ p ≤ 2400000) := by
  have hp := goodB_parts hg
  have h24 := smpB_len hp.2.2.1
  have hs := sum_within (smpB_all hp.2.2.1)
  refine ⟨_, _, by unfold mnR; rw [hg, decide_eq_true hl]; rfl, ?_⟩
  have hG : 0 < Int.gcd xs.sum xs.length := Int.gcd_pos_of_ne_zero_right _ (by omega)
  obtain ⟨a, ha⟩ : ((Int.gcd xs.sum xs.length : Nat) : Int) ∣ xs.sum := Int.gcd_dvd_left ..
  obtain ⟨b, hb⟩ : ((Int.gcd xs.sum xs.length : Nat) : Int) ∣ (xs.length : Int) := Int.gcd_dvd_right ..
  generalize hGe : Int.gcd xs.sum xs.length = G at *
  have hG0 : (G : Int) ≠ 0 := by omega
  have ea : xs.sum.tdiv (G : Int) = a := by rw [ha]; exact Int.mul_tdiv_cancel_left a hG0
  have eb : (xs.length : Int).tdiv (G : Int) = b := by rw [hb]; exact Int.mul_tdiv_cancel_left b hG0
  rw [ea, eb]
  have hb1 : 1 ≤ b := by
    rcases Int.lt_or_le b 1 with h8 | h8
    · have : (G : Int) * b ≤ 0 := Int.mul_nonpos_of_nonneg_of_nonpos (by omega) (by omega)
      omega
    · exact h8
  have hb2 : b ≤ 24 := by
    have : 1 * b ≤ (G : Int) * b := Int.mul_le_mul_of_nonneg_right (by omega) (by omega)
    omega
  have ha1 : -2400000 ≤ a ∧ a ≤ 2400000 := by
    rcases Int.lt_or_le a 0 with h8 | h8
    · have : (G : Int) * a ≤ 1 * a := Int.mul_le_mul_of_nonpos_right (by omega) (by omega)
      omega
    · have : 1 * a ≤ (G : Int) * a := Int.mul_le_mul_of_nonneg_right (by omega) h8
      omega
  refine ⟨?_, ⟨hb1, hb2⟩, ha1⟩
  calc a * (xs.length : Int) = a * ((G : Int) * b) := by rw [← hb]
    _ = ((G : Int) * a) * b := by rw [← Int.mul_assoc, Int.mul_comm a]
    _ = xs.sum * b := by rw [← ha]
theorem sub_yes {st sa lv a b : Int} {xs ys : List Int} (h : subR st sa xs lv = (a, b, ys, true)) : a = st ∧ b = sa ∧ ys = lessI xs lv ∧ goodB st sa xs = true ∧ goodB st sa ys = true ∧ -100000 ≤ lv ∧ lv ≤ 100000 := by
  unfold subR at h
  split at h
  · rename_i h9
    rw [Bool.and_eq_true, Bool.and_eq_true] at h9
    cases h
    exact ⟨rfl, rfl, rfl, h9.1.1, h9.2, inB_iff.1 h9.1.2⟩
  · cases h
/-- a level that is subtracted lowers the mean by it -/
theorem sub_mean {st sa lv a b : Int} {xs ys : List Int} (h : subR st sa xs lv = (a, b, ys, true)) (hl : 0 < xs.length) :
    ∃ p q c d : Int, mnR st sa xs = (p, q, true) ∧ mnR a b ys = (c, d, true) ∧ (p - lv * q) * d = c * q ∧ (1 ≤ q ∧ q ≤ 24) ∧ (1 ≤ d ∧ d ≤ 24) ∧ (-2400000 ≤ p ∧ p ≤ 2400000) ∧ (-2400000 ≤ c ∧ c ≤ 2400000) ∧ -100000 ≤ lv ∧ lv ≤ 100000 := by
  obtain ⟨rfl, rfl, rfl, h1, h2, h3, h4⟩ := sub_yes h
  have hlen : (lessI xs lv).length = xs.length := by unfold lessI; rw [List.length_map]
  obtain ⟨p, q, e1, e2, e3, e4⟩ := mean_yes h1 hl
  obtain ⟨c, d, f1, f2, f3, f4⟩ := mean_yes h2 (by rw [hlen]; exact hl)
  rw [hlen, less_sum] at f2
  refine ⟨p, q, c, d, e1, f1, ?_, e3, f3, e4, f4, h3, h4⟩
  have hn : (xs.length : Int) ≠ 0 := by omega
  refine Int.eq_of_mul_eq_mul_right hn ?_
  generalize (xs.length : Int) = n at *
  generalize xs.sum = S at *
  calc (p - lv * q) * d * n = (p * n - lv * q * n) * d := by rw [Int.mul_assoc, Int.mul_comm d n, ← Int.mul_assoc, Int.sub_mul]
    _ = (S * q - lv * q * n) * d := by rw [e2]
    _ = ((S - n * lv) * d) * q := by
      rw [show S * q - lv * q * n = (S - n * lv) * q by rw [Int.sub_mul, Int.mul_assoc n lv q, Int.mul_comm n (lv * q)]]
      rw [Int.mul_assoc, Int.mul_comm q d, ← Int.mul_assoc]
    _ = (c * n) * q := by rw [f2]
    _ = c * q * n := by rw [Int.mul_assoc, Int.mul_comm n q, ← Int.mul_assoc]
end Go.Proofs.Ytdpmpdhhjmbbcaa
