/- Chapter 5, plain: what the law of clocks asks: marks are met, the line rises, the shown tick is the first one. -/
import Derived.Test.YtmpgafanlgnpeaaProg
import Derived.Test.YtmpgafanlgnpeaaClkE
import Derived.Test.YtmpgafanlgnpeaaClkC
namespace Go.Proofs.Ytmpgafanlgnpeaa
open Go.RowKit

theorem tickR_yes {xs : List (Int × Int)} {s : Int} (h : (tickR xs s).2 = true) : trkB xs = true ∧ (0 ≤ s ∧ s ≤ 1000000) ∧ (0 ≤ lineF xs s ∧ lineF xs s ≤ 1000000) ∧ (tickR xs s).1 = lineF xs s := by
  by_cases hc : (trkB xs && inB s 0 1000000 && inB (lineF xs s) 0 1000000) = true
  · rw [Bool.and_eq_true, Bool.and_eq_true] at hc
    refine ⟨hc.1.1, inB_iff.1 hc.1.2, inB_iff.1 hc.2, ?_⟩
    unfold tickR
    rw [hc.1.1, hc.1.2, hc.2]; rfl
  · unfold tickR at h
    rw [if_neg hc] at h
    cases h
theorem tickR_of {xs : List (Int × Int)} {s : Int} (h : trkB xs = true) (hs : 0 ≤ s ∧ s ≤ 1000000) (hl : 0 ≤ lineF xs s ∧ lineF xs s ≤ 1000000) : tickR xs s = (lineF xs s, true) := by
  unfold tickR
  rw [h, inB_iff.2 hs, inB_iff.2 hl]; rfl
/-- each mark is met -/
theorem tick_mark {xs : List (Int × Int)} (h : trkB xs = true) {k : Nat} {x y : Int} (hk : xs[k]? = some (x, y)) : tickR xs x = (y, true) := by
  obtain ⟨ht, h2, _⟩ := trk_of h
  have hl : k < xs.length := (List.getElem?_eq_some_iff.1 hk).1
  have e := line_mark ht h2 hl
  rw [sh_of hk, tr_of hk] at e
  have a := ht.sh0 k hl
  have b := ht.tr0 k hl
  rw [sh_of hk] at a
  rw [tr_of hk] at b
  simp only at e a b
  rw [tickR_of h a (by rw [e]; exact b), e]
/-- true times never decrease -/
theorem tick_later {xs : List (Int × Int)} {s : Int} (h1 : (tickR xs s).2 = true) (h2 : (tickR xs (s + 1)).2 = true) : (tickR xs s).1 ≤ (tickR xs (s + 1)).1 := by
  obtain ⟨a, _, _, e1⟩ := tickR_yes h1
  obtain ⟨_, _, _, e2⟩ := tickR_yes h2
  obtain ⟨ht, h2, _⟩ := trk_of a
  rw [e1, e2]
  exact line_mono ht h2 (by omega)
theorem bs_spec {f : Int → Int} {t : Int} (hf : ∀ a b, a ≤ b → f a ≤ f b) : ∀ (n : Nat) (lo hi : Int), (hi - lo).toNat ≤ n → lo ≤ hi → lo ≤ bsF f t lo hi ∧ bsF f t lo hi ≤ hi ∧ (bsF f t lo hi < hi → t ≤ f (bsF f t lo hi)) ∧ ∀ s, lo ≤ s → s < bsF f t lo hi → f s < t := by
  intro n
  induction n with
  | zero =>
    intro lo hi hn hl
    rw [bsF_end (by omega)]
    exact ⟨by omega, by omega, fun h => by omega, fun s h1 h2 => by omega⟩
  | succ n ih =>
    intro lo hi hn hl
    by_cases h : lo < hi
    · by_cases h2 : t ≤ f ((lo + hi) / 2)
      · rw [← bsF_low h h2]
        obtain ⟨a, b, c, d⟩ := ih lo ((lo + hi) / 2) (by omega) (by omega)
        refine ⟨a, by omega, fun _ => ?_, d⟩
        rcases Int.lt_or_eq_of_le b with h3 | h3
        · exact c h3
        · rw [h3]; exact h2
      · rw [← bsF_high h h2]
        obtain ⟨a, b, c, d⟩ := ih ((lo + hi) / 2 + 1) hi (by omega) (by omega)
        refine ⟨by omega, b, c, fun s h3 h4 => ?_⟩
        rcases Int.lt_or_le ((lo + hi) / 2) s with h5 | h5
        · exact d s (by omega) h4
        · have := hf _ _ h5; omega
    · rw [bsF_end h]
      exact ⟨by omega, by omega, fun h => by omega, fun s h1 h2 => by omega⟩
/-- the shown tick of a true time is the first one -/
theorem shown_first {xs : List (Int × Int)} {t : Int} (h : (shownR xs t).2 = true) : trkB xs = true ∧ (0 ≤ (shownR xs t).1 ∧ (shownR xs t).1 ≤ 1000000) ∧ (tickR xs (shownR xs t).1).2 = true ∧ t ≤ (tickR xs (shownR xs t).1).1 ∧ ((tickR xs ((shownR xs t).1 - 1)).2 = true → (tickR xs ((shownR xs t).1 - 1)).1 < t) := by
  by_cases hc : (trkB xs && inB t 0 1000000 && decide (bsF (lineF xs) t 0 1000001 ≤ 1000000) && inB (lineF xs (bsF (lineF xs) t 0 1000001)) 0 1000000) = true
  · have e : shownR xs t = (bsF (lineF xs) t 0 1000001, true) := by unfold shownR; rw [if_pos hc]
    rw [Bool.and_eq_true, Bool.and_eq_true, Bool.and_eq_true, decide_eq_true_eq] at hc
    obtain ⟨⟨⟨c1, c2⟩, c3⟩, c4⟩ := hc
    obtain ⟨ht, h2, _⟩ := trk_of c1
    obtain ⟨a, b, c, d⟩ := bs_spec (f := lineF xs) (t := t) (fun a b hab => line_mono ht h2 hab) 1000001 0 1000001 (by omega) (by omega)
    rw [e]
    simp only
    have e2 := tickR_of c1 ⟨a, c3⟩ (inB_iff.1 c4)
    rw [e2]
    refine ⟨c1, ⟨a, c3⟩, rfl, c (by omega), fun h3 => ?_⟩
    obtain ⟨_, h4, _, h5⟩ := tickR_yes h3
    rw [h5]
    exact d _ (by omega) (by omega)
  · unfold shownR at h
    rw [if_neg hc] at h
    cases h
theorem span_told (xs : List (Int × Int)) : (spanR xs).2.2 = trkB xs := by
  unfold spanR
  split
  · rename_i h; rw [h]
  · rename_i h; simp at h; rw [h]
end Go.Proofs.Ytmpgafanlgnpeaa
