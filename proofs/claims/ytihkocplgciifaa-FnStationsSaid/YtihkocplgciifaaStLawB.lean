/- Chapter 3, plain: what the law of stations says: how many are nearest, the common band is seen by all, a speed is the counts by the gain. -/
import Derived.Test.YtihkocplgciifaaProg
import Derived.Test.YtihkocplgciifaaNear
import Derived.Test.YtihkocplgciifaaStG
import Derived.Test.YtihkocplgciifaaStF
import Derived.Test.YtihkocplgciifaaStB
namespace Go.Proofs.Ytihkocplgciifaa
open Go.RowKit

theorem near_count {xs : List St} {X Y m : Int} {ds : List Int} (h : nearR xs X Y m = (ds, true)) : ds.length = xs.length ∨ (ds.length : Int) = m := by
  unfold nearR at h
  split at h
  · rename_i h9
    rw [Bool.and_eq_true] at h9
    have hm := inB_iff.1 h9.2
    cases h
    have hi : (isort (sqK X Y) xs).length = xs.length := isort_len xs
    unfold idsI
    rw [List.length_map, List.length_take]
    omega
  · cases h
theorem bLo_ge (xs : List St) : ∀ n, 1 ≤ bLo xs n ∧ ∀ k, k < n → (stAt xs k).lw ≤ bLo xs n
  | 0 => ⟨Int.le_refl _, fun k hk => by omega⟩
  | n + 1 => by
    obtain ⟨h1, h2⟩ := bLo_ge xs n
    rw [bLo]
    refine ⟨by omega, fun k hk => ?_⟩
    rcases Nat.lt_or_ge k n with h9 | h9
    · have := h2 k h9
      omega
    · obtain rfl : k = n := by omega
      omega
theorem bHi_le (xs : List St) : ∀ n, bHi xs n ≤ 5000 ∧ ∀ k, k < n → bHi xs n ≤ (stAt xs k).hg
  | 0 => ⟨Int.le_refl _, fun k hk => by omega⟩
  | n + 1 => by
    obtain ⟨h1, h2⟩ := bHi_le xs n
    rw [bHi]
    refine ⟨by omega, fun k hk => ?_⟩
    rcases Nat.lt_or_ge k n with h9 | h9
    · have := h2 k h9
      omega
    · obtain rfl : k = n := by omega
      omega
theorem see_all {xs : List St} {f : Int} (hs : stsB xs = true) (h1 : 1 ≤ f) (h2 : f ≤ 5000) (h : ∀ k, k < xs.length → (stAt xs k).lw ≤ f ∧ f ≤ (stAt xs k).hg) : seeR xs f = (idsI xs, true) := by
  have hf : xs.filter (seeB f) = xs := by
    rw [List.filter_eq_self]
    intro s hs
    obtain ⟨k, hk, e⟩ := List.getElem_of_mem hs
    have h9 := h k hk
    rw [stAt_of (List.getElem?_eq_getElem hk), e] at h9
    exact inB_iff.2 h9
  unfold seeR
  rw [hs, inB_iff.2 ⟨h1, h2⟩, hf]
  rfl
/-- at both ends of the band all are seen -/
theorem band_seen {xs : List St} {lo hi : Int} (h : bandR xs = (lo, hi, true)) : seeR xs lo = (idsI xs, true) ∧ seeR xs hi = (idsI xs, true) := by
  unfold bandR at h
  split at h
  · rename_i h9
    rw [Bool.and_eq_true, Bool.and_eq_true] at h9
    have hle := of_decide_eq_true h9.2
    obtain ⟨a1, a2⟩ := bLo_ge xs xs.length
    obtain ⟨b1, b2⟩ := bHi_le xs xs.length
    cases h
    exact ⟨see_all h9.1.1 (by omega) (by omega) fun k hk => ⟨a2 k hk, by have := b2 k hk; omega⟩, see_all h9.1.1 (by omega) (by omega) fun k hk => ⟨by have := a2 k hk; omega, b2 k hk⟩⟩
  · cases h
theorem spd_yes {id : Int} {nm : ByteArray} {x y gn lw hg ut n num den : Int} (h : spdR id nm x y gn lw hg ut n = (num, den, true)) : num * gn = n * den ∧ (1 ≤ den ∧ den ≤ 10000) ∧ (1 ≤ gn ∧ gn ≤ 10000) ∧ (-100000 ≤ num ∧ num ≤ 100000) ∧ (-100000 ≤ n ∧ n ≤ 100000) := by
  unfold spdR at h
  split at h
  · rename_i h9
    rw [Bool.and_eq_true] at h9
    have hn := inB_iff.1 h9.2
    obtain ⟨_, _, _, _, hg, _⟩ := stB_parts h9.1
    injection h with e1 e2
    injection e2 with e2 _
    have hG : 0 < Int.gcd n gn := Int.gcd_pos_of_ne_zero_right n (by omega)
    obtain ⟨a, ha⟩ : ((Int.gcd n gn : Nat) : Int) ∣ n := Int.gcd_dvd_left ..
    obtain ⟨b, hb⟩ : ((Int.gcd n gn : Nat) : Int) ∣ gn := Int.gcd_dvd_right ..
    generalize hGe : Int.gcd n gn = G at *
    have hG0 : (G : Int) ≠ 0 := by omega
    have ea : n.tdiv (G : Int) = a := by rw [ha]; exact Int.mul_tdiv_cancel_left a hG0
    have eb : gn.tdiv (G : Int) = b := by rw [hb]; exact Int.mul_tdiv_cancel_left b hG0
    rw [ea] at e1
    rw [eb] at e2
    subst e1 e2
    have hb1 : 1 ≤ b := by
      rcases Int.lt_or_le b 1 with h8 | h8
      · have : (G : Int) * b ≤ 0 := Int.mul_nonpos_of_nonneg_of_nonpos (by omega) (by omega)
        omega
      · exact h8
    have hb2 : b ≤ 10000 := by
      have : 1 * b ≤ (G : Int) * b := Int.mul_le_mul_of_nonneg_right (by omega) (by omega)
      omega
    have ha1 : -100000 ≤ a ∧ a ≤ 100000 := by
      rcases Int.lt_or_le a 0 with h8 | h8
      · have : (G : Int) * a ≤ 1 * a := Int.mul_le_mul_of_nonpos_right (by omega) (by omega)
        omega
      · have : 1 * a ≤ (G : Int) * a := Int.mul_le_mul_of_nonneg_right (by omega) h8
        omega
    refine ⟨?_, ⟨hb1, hb2⟩, hg, ha1, hn⟩
    calc a * gn = a * ((G : Int) * b) := by rw [← hb]
      _ = ((G : Int) * a) * b := by rw [← Int.mul_assoc, Int.mul_comm a]
      _ = n * b := by rw [← ha]
  · cases h
end Go.Proofs.Ytihkocplgciifaa
