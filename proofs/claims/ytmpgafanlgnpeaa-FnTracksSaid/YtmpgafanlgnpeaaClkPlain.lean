/- Chapter 5, plain: tracks of marks (shown, true) and the line between them. Nothing of the program is named. -/
import Derived.Test.YtmpgafanlgnpeaaBase
namespace Go.Proofs.Ytmpgafanlgnpeaa
open Go.RowKit

/-- what mark k shows, and what is true there -/
def sh (xs : List (Int × Int)) (k : Nat) : Int := (xs.getD k (0, 0)).1
def tr (xs : List (Int × Int)) (k : Nat) : Int := (xs.getD k (0, 0)).2
theorem sh_of {xs : List (Int × Int)} {k : Nat} {p : Int × Int} (h : xs[k]? = some p) : sh xs k = p.1 := by unfold sh; rw [List.getD_eq_getElem?_getD, h]; rfl
theorem tr_of {xs : List (Int × Int)} {k : Nat} {p : Int × Int} (h : xs[k]? = some p) : tr xs k = p.2 := by unfold tr; rw [List.getD_eq_getElem?_getD, h]; rfl
/-- mark k stands as it should behind the one before -/
def mkB (xs : List (Int × Int)) (k : Nat) : Bool := inB (sh xs k) 0 1000000 && inB (tr xs k) 0 1000000 && (decide (k = 0) || (decide (sh xs (k - 1) < sh xs k) && decide (tr xs (k - 1) < tr xs k)))
/-- the first k marks stand as they should -/
def mksB (xs : List (Int × Int)) : Nat → Bool
  | 0 => true
  | k + 1 => mksB xs k && mkB xs k
/-- a track -/
def trkB (xs : List (Int × Int)) : Bool := mksB xs xs.length && inB xs.length 2 10
theorem mksB_later {xs : List (Int × Int)} {k : Nat} (h : mksB xs k = false) : ∀ j, k ≤ j → mksB xs j = false := by
  intro j hj
  induction j with
  | zero => obtain rfl : k = 0 := by omega
            exact h
  | succ j ih =>
    rcases Nat.lt_or_ge j k with h1 | h1
    · obtain rfl : k = j + 1 := by omega
      exact h
    · rw [mksB, ih h1]; rfl
theorem trkB_no {xs : List (Int × Int)} {k : Nat} (hk : k < xs.length) (h : mkB xs k = false) : trkB xs = false := by
  have : mksB xs (k + 1) = false := by rw [mksB, h, Bool.and_false]
  unfold trkB
  rw [mksB_later this _ (by omega)]; rfl
theorem mksB_at {xs : List (Int × Int)} {n : Nat} (h : mksB xs n = true) : ∀ k, k < n → mkB xs k = true := by
  induction n with
  | zero => intro k hk; omega
  | succ n ih =>
    rw [mksB, Bool.and_eq_true] at h
    intro k hk
    rcases Nat.lt_or_ge k n with h1 | h1
    · exact ih h.1 k h1
    · obtain rfl : k = n := by omega
      exact h.2
theorem mksB_of {xs : List (Int × Int)} {n : Nat} (h : ∀ k, k < n → mkB xs k = true) : mksB xs n = true := by
  induction n with
  | zero => rfl
  | succ n ih =>
    rw [mksB, h n (by omega), ih (fun k hk => h k (by omega))]; rfl
/-- what a track is, in numbers -/
structure Trk (xs : List (Int × Int)) : Prop where
  sh0 : ∀ k, k < xs.length → 0 ≤ sh xs k ∧ sh xs k ≤ 1000000
  tr0 : ∀ k, k < xs.length → 0 ≤ tr xs k ∧ tr xs k ≤ 1000000
  up : ∀ k, k + 1 < xs.length → sh xs k < sh xs (k + 1) ∧ tr xs k < tr xs (k + 1)
theorem mkB_parts {xs : List (Int × Int)} {k : Nat} (h : mkB xs k = true) : (0 ≤ sh xs k ∧ sh xs k ≤ 1000000) ∧ (0 ≤ tr xs k ∧ tr xs k ≤ 1000000) ∧ (k = 0 ∨ (sh xs (k - 1) < sh xs k ∧ tr xs (k - 1) < tr xs k)) := by
  unfold mkB at h
  simp only [Bool.and_eq_true, Bool.or_eq_true, decide_eq_true_eq] at h
  exact ⟨inB_iff.1 h.1.1, inB_iff.1 h.1.2, h.2⟩
theorem trk_of_mks {xs : List (Int × Int)} (h : mksB xs xs.length = true) : Trk xs :=
  ⟨fun k hk => (mkB_parts (mksB_at h k hk)).1, fun k hk => (mkB_parts (mksB_at h k hk)).2.1, fun k hk => by
    have := (mkB_parts (mksB_at h (k + 1) hk)).2.2
    simpa using this⟩
theorem trk_of {xs : List (Int × Int)} (h : trkB xs = true) : Trk xs ∧ 2 ≤ xs.length ∧ xs.length ≤ 10 := by
  unfold trkB at h
  rw [Bool.and_eq_true] at h
  have := inB_iff.1 h.2
  exact ⟨trk_of_mks h.1, by omega, by omega⟩
theorem mks_of_trk {xs : List (Int × Int)} (h : Trk xs) : mksB xs xs.length = true := mksB_of fun k hk => by
  unfold mkB
  rw [inB_iff.2 (h.sh0 k hk), inB_iff.2 (h.tr0 k hk)]
  rcases Nat.eq_zero_or_pos k with h0 | h0
  · subst h0; rfl
  · have := h.up (k - 1) (by omega)
    rw [show k - 1 + 1 = k by omega] at this
    simp [this.1, this.2]
theorem trkB_of {xs : List (Int × Int)} (h : Trk xs) (h0 : 2 ≤ xs.length) (h1 : xs.length ≤ 10) : trkB xs = true := by
  unfold trkB
  rw [mks_of_trk h, inB_iff.2 (by omega)]; rfl
theorem Trk.sh_lt {xs : List (Int × Int)} (h : Trk xs) {j k : Nat} (hjk : j < k) (hk : k < xs.length) : sh xs j < sh xs k := by
  induction k with
  | zero => omega
  | succ k ih =>
    have := (h.up k hk).1
    rcases Nat.lt_or_ge j k with h1 | h1
    · have := ih h1 (by omega); omega
    · obtain rfl : j = k := by omega
      exact this
theorem Trk.tr_lt {xs : List (Int × Int)} (h : Trk xs) {j k : Nat} (hjk : j < k) (hk : k < xs.length) : tr xs j < tr xs k := by
  induction k with
  | zero => omega
  | succ k ih =>
    have := (h.up k hk).2
    rcases Nat.lt_or_ge j k with h1 | h1
    · have := ih h1 (by omega); omega
    · obtain rfl : j = k := by omega
      exact this
theorem Trk.sh_le {xs : List (Int × Int)} (h : Trk xs) {j k : Nat} (hjk : j ≤ k) (hk : k < xs.length) : sh xs j ≤ sh xs k := by
  rcases Nat.lt_or_ge j k with h1 | h1
  · exact Int.le_of_lt (h.sh_lt h1 hk)
  · obtain rfl : j = k := by omega
    exact Int.le_refl _
theorem Trk.tr_le {xs : List (Int × Int)} (h : Trk xs) {j k : Nat} (hjk : j ≤ k) (hk : k < xs.length) : tr xs j ≤ tr xs k := by
  rcases Nat.lt_or_ge j k with h1 | h1
  · exact Int.le_of_lt (h.tr_lt h1 hk)
  · obtain rfl : j = k := by omega
    exact Int.le_refl _

/-! ### the line -/
/-- the line through marks k and k + 1, at s -/
def seg (xs : List (Int × Int)) (k : Nat) (s : Int) : Int := tr xs k + ((s - sh xs k) * (tr xs (k + 1) - tr xs k)) / (sh xs (k + 1) - sh xs k)
/-- marks k and k + 1 are a pair that the rule may take for s (at a mark there are two) -/
def At (xs : List (Int × Int)) (s : Int) (k : Nat) : Prop := k + 1 < xs.length ∧ (k = 0 ∨ sh xs k ≤ s) ∧ (k + 2 = xs.length ∨ s ≤ sh xs (k + 1))
/-- the rule: on from k while the next mark shows no more than s -/
def segK (xs : List (Int × Int)) (s : Int) : Nat → Nat → Nat
  | 0, k => k
  | f + 1, k => if k + 2 < xs.length ∧ sh xs (k + 1) ≤ s then segK xs s f (k + 1) else k
def lineF (xs : List (Int × Int)) (s : Int) : Int := seg xs (segK xs s xs.length 0) s
theorem segK_at (xs : List (Int × Int)) (s : Int) (f k : Nat) (hf : xs.length ≤ f + k + 2) (h1 : k + 1 < xs.length) (h2 : k = 0 ∨ sh xs k ≤ s) : At xs s (segK xs s f k) := by
  induction f generalizing k with
  | zero => exact ⟨h1, h2, .inl (by simp only [segK]; omega)⟩
  | succ f ih =>
    rw [segK]
    split
    · rename_i h
      exact ih (k + 1) (by omega) (by omega) (.inr h.2)
    · rename_i h
      refine ⟨h1, h2, ?_⟩
      by_cases h3 : k + 2 < xs.length
      · exact .inr (by have : ¬ sh xs (k + 1) ≤ s := fun e => h ⟨h3, e⟩
                       omega)
      · exact .inl (by omega)
/-- at the next mark the two pieces meet -/
theorem seg_end {xs : List (Int × Int)} (h : Trk xs) {k : Nat} (hk : k + 1 < xs.length) : seg xs k (sh xs (k + 1)) = tr xs (k + 1) := by
  unfold seg
  have := (h.up k hk).1
  rw [Int.mul_ediv_cancel_left _ (by omega)]
  omega
theorem seg_start (xs : List (Int × Int)) (k : Nat) : seg xs k (sh xs k) = tr xs k := by
  unfold seg
  simp
/-- a piece rises -/
theorem seg_mono {xs : List (Int × Int)} (h : Trk xs) {k : Nat} (hk : k + 1 < xs.length) {s t : Int} (hst : s ≤ t) : seg xs k s ≤ seg xs k t := by
  unfold seg
  have h1 := (h.up k hk).1
  have h2 := (h.up k hk).2
  have := Int.ediv_le_ediv (c := sh xs (k + 1) - sh xs k) (by omega) (Int.mul_le_mul_of_nonneg_right (show s - sh xs k ≤ t - sh xs k by omega) (show 0 ≤ tr xs (k + 1) - tr xs k by omega))
  omega
/-- the line rises: whatever pairs are taken -/
theorem at_mono {xs : List (Int × Int)} (h : Trk xs) {j k : Nat} {s t : Int} (hj : At xs s j) (hk : At xs t k) (hst : s ≤ t) : seg xs j s ≤ seg xs k t := by
  obtain ⟨a1, a2, a3⟩ := hj
  obtain ⟨b1, b2, b3⟩ := hk
  rcases Nat.lt_trichotomy j k with h1 | h1 | h1
  · have h2 : s ≤ sh xs (j + 1) := by omega
    have h3 : sh xs k ≤ t := by omega
    have e1 := seg_mono h a1 h2
    rw [seg_end h a1] at e1
    have e2 := seg_mono h b1 h3
    rw [seg_start] at e2
    have e3 := h.tr_le (show j + 1 ≤ k by omega) (by omega)
    omega
  · subst h1
    exact seg_mono h a1 hst
  · have h2 : sh xs j ≤ s := by omega
    have h3 : t ≤ sh xs (k + 1) := by omega
    have e4 := h.sh_le (show k + 1 ≤ j by omega) (by omega)
    have e5 : s = t := by omega
    have e6 : sh xs j = s := by omega
    have e7 : sh xs (k + 1) = t := by omega
    subst e5
    have e8 : k + 1 = j := by
      rcases Nat.lt_or_ge (k + 1) j with h9 | h9
      · have := h.sh_lt h9 (by omega); omega
      · omega
    rw [← e8] at e6 ⊢
    rw [← e6, seg_start, seg_end h b1]
    exact Int.le_refl _
theorem at_unique {xs : List (Int × Int)} (h : Trk xs) {j k : Nat} {s : Int} (hj : At xs s j) (hk : At xs s k) : seg xs j s = seg xs k s :=
  Int.le_antisymm (at_mono h hj hk (Int.le_refl _)) (at_mono h hk hj (Int.le_refl _))
theorem lineF_at (xs : List (Int × Int)) (s : Int) (h : 2 ≤ xs.length) : At xs s (segK xs s xs.length 0) := segK_at xs s _ 0 (by omega) (by omega) (.inl rfl)
theorem line_of {xs : List (Int × Int)} (h : Trk xs) {k : Nat} {s : Int} (hk : At xs s k) : lineF xs s = seg xs k s := at_unique h (lineF_at xs s (by have := hk.1; omega)) hk
theorem line_mono {xs : List (Int × Int)} (h : Trk xs) (h2 : 2 ≤ xs.length) {s t : Int} (hst : s ≤ t) : lineF xs s ≤ lineF xs t := at_mono h (lineF_at xs s h2) (lineF_at xs t h2) hst
theorem line_mark {xs : List (Int × Int)} (h : Trk xs) (h2 : 2 ≤ xs.length) {k : Nat} (hk : k < xs.length) : lineF xs (sh xs k) = tr xs k := by
  by_cases h3 : k + 1 < xs.length
  · rw [line_of h (k := k) ⟨h3, .inr (Int.le_refl _), .inr (Int.le_of_lt (h.up k h3).1)⟩, seg_start]
  · have e : k - 1 + 1 = k := by omega
    rw [line_of h (k := k - 1) ⟨by omega, ?_, .inl (by omega)⟩]
    · have := seg_end h (k := k - 1) (by omega)
      rwa [e] at this
    · exact .inr (h.sh_le (by omega) hk)

/-! ### what the walks need of the numbers -/
theorem prod_bound {a b : Int} (ha : -3000000 ≤ a ∧ a ≤ 3000000) (hb : 0 ≤ b ∧ b ≤ 1000000) : -3000000000000 ≤ a * b ∧ a * b ≤ 3000000000000 := by
  have h1 := Int.mul_le_mul_of_nonneg_right ha.2 hb.1
  have h2 := Int.mul_le_mul_of_nonneg_right ha.1 hb.1
  omega
/-- Go's quotient, lowered where it was rounded up -/
theorem floor_quo (a b : Int) (hb : 0 < b) : (if a.tmod b ≠ 0 ∧ a < 0 then a.tdiv b - 1 else a.tdiv b) = a / b := by
  rcases (show a < 0 ∨ 0 ≤ a by omega) with h | h
  · have e := Int.tdiv_eq_ediv (a := a) (b := b)
    have e2 := Int.tmod_eq_emod (a := a) (b := b)
    by_cases hd : b ∣ a
    · have h0 : a.tmod b = 0 := Int.tmod_eq_zero_of_dvd hd
      rw [if_neg (by simp [h0])]
      rw [e, if_pos (.inr hd)]
      omega
    · have h0 : a.tmod b ≠ 0 := fun h9 => hd (Int.dvd_of_tmod_eq_zero h9)
      rw [if_pos ⟨h0, h⟩, e, if_neg (by simp [hd]; omega)]
      have : b.sign = 1 := Int.sign_eq_one_of_pos hb
      omega
  · rw [if_neg (by omega), Int.tdiv_eq_ediv_of_nonneg h]
end Go.Proofs.Ytmpgafanlgnpeaa
