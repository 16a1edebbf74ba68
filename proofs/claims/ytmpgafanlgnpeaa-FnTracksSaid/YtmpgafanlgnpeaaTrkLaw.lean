/- Chapter 5, plain: what the law of tracks asks: merging is the same from both sides, what is dropped leaves a track, no drift is worse than the worst. -/
import Derived.Test.YtmpgafanlgnpeaaProg
import Derived.Test.YtmpgafanlgnpeaaClkLaw
import Derived.Test.YtmpgafanlgnpeaaClkG
import Derived.Test.YtmpgafanlgnpeaaMergePlain
import Derived.Test.YtmpgafanlgnpeaaDropPlain
namespace Go.Proofs.Ytmpgafanlgnpeaa
open Go.RowKit

theorem drop_trk {xs : List (Int × Int)} {d : Int} (h : (dropR xs d).2 = true) : trkB (dropR xs d).1 = true := by
  by_cases hc : (trkB xs && inB d 0 1000) = true
  · have e : dropR xs d = (dropF d xs 1, true) := by unfold dropR; rw [if_pos hc]
    rw [Bool.and_eq_true] at hc
    obtain ⟨ht, h2, h10⟩ := trk_of hc.1
    obtain ⟨a, b, c⟩ := dropF_trk d _ xs 1 (Nat.le_refl _) (Nat.le_refl _) ht h2
    rw [e]
    exact trkB_of a b (Nat.le_trans c h10)
  · unfold dropR at h
    rw [if_neg hc] at h
    cases h
theorem mrg_yes {xs ys : List (Int × Int)} (h : (mrgR xs ys).2 = true) : trkB xs = true ∧ trkB ys = true ∧ trkB (mrgR xs ys).1 = true ∧ (mrgR xs ys).1 = cmpct (osort (xs ++ ys)) := by
  by_cases hc : (trkB xs && trkB ys && trkB (cmpct (osort (xs ++ ys)))) = true
  · have e : mrgR xs ys = (cmpct (osort (xs ++ ys)), true) := by unfold mrgR; rw [if_pos hc]
    rw [Bool.and_eq_true, Bool.and_eq_true] at hc
    rw [e]
    exact ⟨hc.1.1, hc.1.2, hc.2, rfl⟩
  · unfold mrgR at h
    rw [if_neg hc] at h
    cases h
/-- a strict list is what sorting and striking makes of any list of its elements -/
theorem merge_unique {M zs : List (Int × Int)} (hM : trkB M = true) (hm : ∀ z, z ∈ zs ↔ z ∈ M) : cmpct (osort zs) = M := by
  have hs := trk_asc (trk_of hM).1
  have hm2 : ∀ z, z ∈ cmpct (osort zs) ↔ z ∈ M := fun z => by rw [cmpct_mem, (osort_perm _).mem_iff, hm]
  have hc := cmpct_strict (osort_asc zs) fun x y h1 h2 e => strict_inj hs ((hm2 x).1 (cmpct_mem.2 h1)) ((hm2 y).1 (cmpct_mem.2 h2)) e
  exact asc_unique (cmpct_asc (osort_asc zs)) (trk_asc' (trk_of hM).1) (nodup_perm (strict_nodup hc) (strict_nodup hs) hm2) (.inl hc)
theorem mrg_mem {xs ys : List (Int × Int)} (h : (mrgR xs ys).2 = true) (z : Int × Int) : z ∈ (mrgR xs ys).1 ↔ z ∈ xs ∨ z ∈ ys := by
  rw [(mrg_yes h).2.2.2, cmpct_mem, (osort_perm _).mem_iff, List.mem_append]
theorem mrg_of {M aa bb : List (Int × Int)} (ha : trkB aa = true) (hb : trkB bb = true) (hM : trkB M = true) (hm : ∀ z, z ∈ M ↔ z ∈ aa ∨ z ∈ bb) : mrgR aa bb = (M, true) := by
  have e := merge_unique (zs := aa ++ bb) hM fun z => by rw [List.mem_append, hm]
  unfold mrgR
  rw [e, ha, hb, hM]; rfl
/-- merging again changes nothing -/
theorem mrg_again {xs ys : List (Int × Int)} (h : (mrgR xs ys).2 = true) : mrgR (mrgR xs ys).1 xs = ((mrgR xs ys).1, true) := by
  obtain ⟨a, b, c, _⟩ := mrg_yes h
  exact mrg_of c a c fun z => by
    rw [mrg_mem h]
    constructor
    · exact .inl
    · rintro (h | h)
      · exact h
      · exact .inl h
theorem mrg_other {xs ys : List (Int × Int)} (h : (mrgR xs ys).2 = true) : mrgR ys xs = ((mrgR xs ys).1, true) := by
  obtain ⟨a, b, c, _⟩ := mrg_yes h
  exact mrg_of b a c fun z => by rw [mrg_mem h]; exact Or.comm
theorem add_yes {xs : List (Int × Int)} {x y : Int} (h : (addR xs (x, y)).2 = true) : trkB (addR xs (x, y)).1 = true ∧ tickR (addR xs (x, y)).1 x = (y, true) := by
  by_cases hc : (trkB xs && trkB (osort (xs ++ [(x, y)]))) = true
  · have e : addR xs (x, y) = (osort (xs ++ [(x, y)]), true) := by unfold addR; rw [if_pos hc]
    rw [Bool.and_eq_true] at hc
    rw [e]
    refine ⟨hc.2, ?_⟩
    have hm : (x, y) ∈ osort (xs ++ [(x, y)]) := (osort_perm _).mem_iff.2 (by simp)
    obtain ⟨k, hk⟩ := List.mem_iff_getElem?.1 hm
    exact tick_mark hc.2 hk
  · unfold addR at h
    rw [if_neg hc] at h
    cases h

/-! ### the worst drift -/
theorem lowP_pos (a b : Int) (hb : 0 < b) : 0 < (lowP a b).2 := by
  unfold lowP
  have h1 : ((Int.gcd a b : Nat) : Int) ∣ b := Int.gcd_dvd_right ..
  have h0 : 0 < Int.gcd a b := Int.gcd_pos_of_ne_zero_right _ (by omega)
  obtain ⟨c, hc⟩ := h1
  have h2 : 0 < ((Int.gcd a b : Nat) : Int) := by omega
  have h3 : 0 < c := by
    rcases Int.lt_trichotomy c 0 with h | h | h
    · have := Int.mul_neg_of_pos_of_neg h2 h; omega
    · subst h; simp at hc; omega
    · exact h
  have key : ∀ d : Int, 0 < d → b = d * c → 0 < b.tdiv d := fun d hd e => by rw [e, Int.mul_tdiv_cancel_left c (by omega)]; exact h3
  exact key _ h2 hc
theorem drfI_pos {xs : List (Int × Int)} (ht : Trk xs) (k : Nat) (hk : k ≤ xs.length) : ∀ p ∈ drfI xs k, 0 < p.2 := by
  induction k with
  | zero => simp [drfI]
  | succ k ih =>
    intro p hp
    rw [drfI, List.mem_append] at hp
    rcases hp with hp | hp
    · exact ih (by omega) p hp
    · split at hp
      · rename_i h1
        simp at hp
        subst hp
        have e := ht.up (k - 1) (by omega)
        rw [show k - 1 + 1 = k by omega] at e
        exact lowP_pos _ _ (by omega)
      · simp at hp
theorem offD_nonneg (p : Int × Int) : 0 ≤ offD p := by unfold offD; omega
/-- among fractions with positive denominators 'no worse' carries on -/
theorem worse_trans {a b c : Int × Int} (ha : 0 < a.2) (hb : 0 < b.2) (hc : 0 < c.2) (h1 : offD a * b.2 ≤ offD b * a.2) (h2 : offD b * c.2 ≤ offD c * b.2) : offD a * c.2 ≤ offD c * a.2 := by
  have e1 : (offD a * b.2) * c.2 ≤ (offD b * a.2) * c.2 := Int.mul_le_mul_of_nonneg_right h1 (by omega)
  have e2 : (offD b * c.2) * a.2 ≤ (offD c * b.2) * a.2 := Int.mul_le_mul_of_nonneg_right h2 (by omega)
  have e3 : (offD a * c.2) * b.2 ≤ (offD c * a.2) * b.2 := by
    have x1 : (offD a * b.2) * c.2 = (offD a * c.2) * b.2 := Int.mul_right_comm _ _ _
    have x2 : (offD b * a.2) * c.2 = (offD b * c.2) * a.2 := Int.mul_right_comm _ _ _
    have x3 : (offD c * b.2) * a.2 = (offD c * a.2) * b.2 := Int.mul_right_comm _ _ _
    omega
  exact Int.le_of_mul_le_mul_right e3 hb
theorem wrs_most {ds : List (Int × Int)} (hp : ∀ p ∈ ds, 0 < p.2) : ∀ k, 1 ≤ k → k ≤ ds.length → ∀ i, i < k → ∀ p q, ds[i]? = some p → ds[wrsI ds k]? = some q → offD p * q.2 ≤ offD q * p.2 := by
  intro k
  induction k with
  | zero => intro h; omega
  | succ k ih =>
    intro _ hk i hi p q hpi hq
    have pp := hp p (List.mem_of_getElem? hpi)
    have pq := hp q (List.mem_of_getElem? hq)
    rcases Nat.eq_zero_or_pos k with h0 | h0
    · subst h0
      rw [wrs_one] at hq
      obtain rfl : i = 0 := by omega
      rw [hpi] at hq
      injection hq with hq
      subst hq
      exact Int.le_refl _
    · have hw := wrs_le ds k
      have hgk : ds[k]? = some ds[k] := List.getElem?_eq_getElem (by omega)
      have hgw : ds[wrsI ds k]? = some ds[wrsI ds k] := List.getElem?_eq_getElem (by omega)
      have ps := hp _ (List.mem_of_getElem? hgk)
      have pw := hp _ (List.mem_of_getElem? hgw)
      rw [wrs_step ds k hgk hgw] at hq
      by_cases hc : wrsB ds[k] ds[wrsI ds k] = true
      · rw [if_pos hc, hgk] at hq
        injection hq with hq
        subst hq
        unfold wrsB at hc
        rw [decide_eq_true_eq] at hc
        rcases Nat.lt_or_ge i k with h1 | h1
        · exact worse_trans pp pw ps (ih h0 (by omega) i h1 p _ hpi hgw) (Int.le_of_lt hc)
        · obtain rfl : i = k := by omega
          rw [hpi] at hgk
          injection hgk with hgk
          rw [← hgk]
          exact Int.le_refl _
      · rw [if_neg hc, hgw] at hq
        injection hq with hq
        rw [← hq]
        unfold wrsB at hc
        rw [decide_eq_true_eq] at hc
        rcases Nat.lt_or_ge i k with h1 | h1
        · exact ih h0 (by omega) i h1 p _ hpi hgw
        · obtain rfl : i = k := by omega
          rw [hpi] at hgk
          injection hgk with hgk
          rw [← hgk] at hc
          omega
theorem wrs_told (xs : List (Int × Int)) : (wrsR xs).2 = trkB xs ∧ (drfR xs).2 = trkB xs := by
  unfold wrsR drfR
  rcases h : trkB xs with _ | _ <;> exact ⟨rfl, rfl⟩
/-- no drift is worse than the worst -/
theorem drift_worst {xs : List (Int × Int)} (h : trkB xs = true) : ∃ W : Nat, (wrsR xs).1 = (W : Int) ∧ W < (drfR xs).1.length ∧ ∀ (i : Nat) (p q : Int × Int), (drfR xs).1[i]? = some p → (drfR xs).1[W]? = some q → offD p * q.2 ≤ offD q * p.2 := by
  obtain ⟨ht, h2, h10⟩ := trk_of h
  have e1 : wrsR xs = (((wrsI (drfI xs xs.length) (xs.length - 1) : Nat) : Int), true) := by unfold wrsR; rw [h]; rfl
  have e2 : drfR xs = (drfI xs xs.length, true) := by unfold drfR; rw [h]; rfl
  have hl := drfI_len xs xs.length
  have hw := wrs_le (drfI xs xs.length) (xs.length - 1)
  rw [e1, e2]
  refine ⟨_, rfl, by simp only; omega, fun i p q hp hq => ?_⟩
  simp only at hp hq
  have hi : i < (drfI xs xs.length).length := (List.getElem?_eq_some_iff.1 hp).1
  exact wrs_most (drfI_pos ht _ (Nat.le_refl _)) (xs.length - 1) (by omega) (by omega) i (by omega) p q hp hq
theorem drift_small {xs : List (Int × Int)} (p : Int × Int) (hp : p ∈ (drfR xs).1) : (0 ≤ p.1 ∧ p.1 ≤ 1000000) ∧ (0 ≤ p.2 ∧ p.2 ≤ 1000000) := by
  unfold drfR at hp
  split at hp
  · rename_i h
    exact drfI_bound (trk_of h).1 _ (Nat.le_refl _) p hp
  · cases hp
end Go.Proofs.Ytmpgafanlgnpeaa
