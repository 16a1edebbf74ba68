/- Chapter 3, plain: what the law of networks says: a station calibrated anew is not told before its tick, pairs stand in order, a gap has no station. -/
import Derived.Test.YtihkocplgciifaaProg
import Derived.Test.YtihkocplgciifaaRec
import Derived.Test.YtihkocplgciifaaGap
import Derived.Test.YtihkocplgciifaaStF
import Derived.Test.YtihkocplgciifaaTriB
namespace Go.Proofs.Ytihkocplgciifaa
open Go.RowKit

theorem rec_told {xs ys : List St} {i g u : Int} (h : recR xs i g u = (ys, true)) (hn : ∀ x ∈ xs, x.nm.size ≤ 9223372036854775807) : (∃ ds, uncR ys u = (ds, true) ∧ ∀ d ∈ ds, d ≠ i) ∧ ys.length = xs.length ∧ ∀ x ∈ ys, x.nm.size ≤ 9223372036854775807 := by
  unfold recR at h
  split at h
  · rcases hf : xs.findIdx? (fun s => s.id == i) with _ | k
    · rw [hf] at h; cases h
    · rw [hf] at h
      have hk := (List.findIdx?_eq_some_iff_getElem.1 hf).1
      simp only at h
      split at h
      · rename_i h9
        unfold fitB at h9
        rw [Bool.and_eq_true, Bool.and_eq_true] at h9
        have hid := of_decide_eq_true h9.1
        have hst := h9.2.2
        cases h
        have hlen := newS_len xs g u k
        have hat : (newS xs g u k)[k]? = some { stAt xs k with gn := g, ut := u } := by unfold newS; rw [List.getElem?_set_self hk]
        have hok := (stn_of hst).ok k (by omega)
        rw [stAt_of hat] at hok
        have hu := (stB_parts hok).2.2.2.2.2.2
        refine ⟨⟨_, by unfold uncR; rw [hst, inB_iff.2 hu]; rfl, fun d hd e => ?_⟩, hlen, newS_names hk hn⟩
        unfold idsI at hd
        obtain ⟨s, hs, rfl⟩ := List.mem_map.1 hd
        obtain ⟨hs1, hs2⟩ := List.mem_filter.1 hs
        have hut : s.ut < u := of_decide_eq_true hs2
        obtain ⟨j, hj, e2⟩ := List.getElem_of_mem hs1
        have hsj : stAt (newS xs g u k) j = s := stAt_of (by rw [List.getElem?_eq_getElem hj, e2])
        rcases Nat.lt_trichotomy j k with h8 | h8 | h8
        · have := ids_up hst h8 (by omega)
          rw [hsj, stAt_of hat] at this
          simp only at this
          omega
        · subst h8
          rw [stAt_of hat] at hsj
          subst hsj
          simp only at hut
          omega
        · have := ids_up hst h8 hj
          rw [hsj, stAt_of hat] at this
          simp only at this
          omega
      · cases h
  · cases h
theorem pair_count {xs : List St} {vs : List (Int × Int × Int)} (h : pairR xs = (vs, true)) : 2 * (vs.length : Int) = (xs.length : Int) * ((xs.length : Int) - 1) ∧ xs.length ≤ 10 := by
  unfold pairR at h
  split at h
  · rename_i h9
    cases h
    have h1 := prs_len xs xs.length (Nat.le_refl _)
    rw [isort_len]
    refine ⟨?_, sts_short h9⟩
    generalize (prs xs xs.length).length = L at *
    generalize xs.length = n at *
    have h2 : (2 * (L : Int) + (n : Int) * ((n : Int) + 1)) = 2 * (n : Int) * (n : Int) := by exact_mod_cast h1
    rw [Int.mul_sub, Int.mul_one]
    rw [Int.mul_add, Int.mul_one, Int.mul_assoc] at h2
    omega
  · cases h
theorem pair_order (xs : List St) (i : Nat) (a b : Int × Int × Int) (ha : (pairR xs).1[i]? = some a) (hb : (pairR xs).1[i + 1]? = some b) : k3 a ≤ k3 b := by
  unfold pairR at ha hb
  split at ha
  · rename_i h9
    rw [if_pos h9] at hb
    have h1 := List.pairwise_iff_getElem.1 (isort_asc (key := k3) (prs xs xs.length)) i (i + 1)
    obtain ⟨p1, p2⟩ := List.getElem?_eq_some_iff.1 ha
    obtain ⟨q1, q2⟩ := List.getElem?_eq_some_iff.1 hb
    have h2 := h1 p1 q1 (by omega)
    rw [p2, q2] at h2
    exact h2
  · simp at ha
theorem gap_none {xs : List St} {x y q : Int} (h : gapR xs x y = (q, true)) (s : St) (hs : s ∈ xs) : (q = 0 → x < s.x → ¬ y ≤ s.y) ∧ (q = 2 → s.x < x → ¬ s.y ≤ y) := by
  have he : ∀ p : Nat, emB xs x y p = true → qtB x y p s = false := fun p hp => by
    have h9 := of_decide_eq_true hp
    rw [List.filter_eq_nil_iff] at h9
    simpa using h9 s hs
  have hq : ∃ p : Nat, q = (p : Int) ∧ emB xs x y p = true := by
    unfold gapR at h
    split at h
    · unfold gapQ at h
      repeat' split at h
      all_goals first
        | (cases h; exact ⟨_, rfl, by assumption⟩)
        | (cases h; rename_i h7; exact ⟨_, rfl, h7.1⟩)
        | cases h
    · cases h
  obtain ⟨p, rfl, hp⟩ := hq
  have h9 := he p hp
  refine ⟨fun h0 h1 h2 => ?_, fun h0 h1 h2 => ?_⟩
  · obtain rfl : p = 0 := by omega
    unfold qtB at h9
    simp [h1, h2] at h9
  · obtain rfl : p = 2 := by omega
    unfold qtB at h9
    simp [h1, h2] at h9
end Go.Proofs.Ytihkocplgciifaa
