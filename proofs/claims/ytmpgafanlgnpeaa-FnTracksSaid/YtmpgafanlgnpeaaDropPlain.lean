/- Chapter 5, plain: a track without one of its marks; what is left when marks that others tell nearly are dropped. Nothing of the program is named. -/
import Derived.Test.YtmpgafanlgnpeaaClkPlain
namespace Go.Proofs.Ytmpgafanlgnpeaa
open Go.RowKit

/-- a list without its element i -/
def del (xs : List (Int × Int)) (i : Nat) : List (Int × Int) := xs.take i ++ xs.drop (i + 1)
theorem del_len {xs : List (Int × Int)} {i : Nat} (h : i < xs.length) : (del xs i).length = xs.length - 1 := by
  unfold del
  rw [List.length_append, List.length_take, List.length_drop]
  omega
theorem del_get {xs : List (Int × Int)} {i : Nat} (h : i < xs.length) (k : Nat) : (del xs i)[k]? = if k < i then xs[k]? else xs[k + 1]? := by
  unfold del
  split
  · rename_i h1
    rw [List.getElem?_append_left (by rw [List.length_take]; omega), List.getElem?_take, if_pos h1]
  · rename_i h1
    rw [List.getElem?_append_right (by rw [List.length_take]; omega), List.length_take, List.getElem?_drop]
    congr 1
    omega
theorem sh_del {xs : List (Int × Int)} {i : Nat} (h : i < xs.length) (k : Nat) : sh (del xs i) k = if k < i then sh xs k else sh xs (k + 1) := by
  unfold sh
  rw [List.getD_eq_getElem?_getD, del_get h]
  split <;> rw [List.getD_eq_getElem?_getD]
theorem tr_del {xs : List (Int × Int)} {i : Nat} (h : i < xs.length) (k : Nat) : tr (del xs i) k = if k < i then tr xs k else tr xs (k + 1) := by
  unfold tr
  rw [List.getD_eq_getElem?_getD, del_get h]
  split <;> rw [List.getD_eq_getElem?_getD]
theorem Trk.del {xs : List (Int × Int)} (h : Trk xs) {i : Nat} (hi : i < xs.length) : Trk (del xs i) := by
  have hl := del_len hi
  refine ⟨fun k hk => ?_, fun k hk => ?_, fun k hk => ?_⟩
  · rw [sh_del hi]
    split
    · exact h.sh0 k (by omega)
    · exact h.sh0 (k + 1) (by omega)
  · rw [tr_del hi]
    split
    · exact h.tr0 k (by omega)
    · exact h.tr0 (k + 1) (by omega)
  · rw [sh_del hi, sh_del hi, tr_del hi, tr_del hi]
    by_cases h1 : k < i
    · by_cases h2 : k + 1 < i
      · rw [if_pos h1, if_pos h2, if_pos h1, if_pos h2]
        exact h.up k (by omega)
      · rw [if_pos h1, if_neg h2, if_pos h1, if_neg h2]
        exact ⟨h.sh_lt (by omega) (by omega), h.tr_lt (by omega) (by omega)⟩
    · rw [if_neg h1, if_neg (by omega), if_neg h1, if_neg (by omega)]
      exact h.up (k + 1) (by omega)
/-- the others tell mark i nearly -/
def nearB (d : Int) (xs : List (Int × Int)) (i : Nat) : Bool := decide (max (tr xs i - lineF (del xs i) (sh xs i)) (-(tr xs i - lineF (del xs i) (sh xs i))) ≤ d)
/-- from mark i on, what others tell nearly is dropped -/
def dropF (d : Int) (xs : List (Int × Int)) (i : Nat) : List (Int × Int) :=
  if _h : i + 1 < xs.length then (if nearB d xs i = true then dropF d (del xs i) i else dropF d xs (i + 1)) else xs
termination_by xs.length - i
decreasing_by
  · rw [del_len (by omega)]; omega
  · omega
theorem dropF_yes {d : Int} {xs : List (Int × Int)} {i : Nat} (h : i + 1 < xs.length) (h2 : nearB d xs i = true) : dropF d (del xs i) i = dropF d xs i := by
  conv => rhs; rw [dropF]
  rw [dif_pos h, if_pos h2]
theorem dropF_no {d : Int} {xs : List (Int × Int)} {i : Nat} (h : i + 1 < xs.length) (h2 : nearB d xs i = false) : dropF d xs (i + 1) = dropF d xs i := by
  conv => rhs; rw [dropF]
  rw [dif_pos h, if_neg (by rw [h2]; simp)]
theorem dropF_end {d : Int} {xs : List (Int × Int)} {i : Nat} (h : ¬ i + 1 < xs.length) : dropF d xs i = xs := by rw [dropF, dif_neg h]
/-- what is left of a track, whether it may be asked -/
def dropR (xs : List (Int × Int)) (d : Int) : List (Int × Int) × Bool := if (trkB xs && inB d 0 1000) = true then (dropF d xs 1, true) else ([], false)
/-- it is a track of no more marks -/
theorem dropF_trk (d : Int) (n : Nat) : ∀ (xs : List (Int × Int)) (i : Nat), xs.length - i ≤ n → 1 ≤ i → Trk xs → 2 ≤ xs.length → Trk (dropF d xs i) ∧ 2 ≤ (dropF d xs i).length ∧ (dropF d xs i).length ≤ xs.length := by
  induction n with
  | zero =>
    intro xs i h0 h1 ht h2
    rw [dropF_end (by omega)]
    exact ⟨ht, h2, Nat.le_refl _⟩
  | succ n ih =>
    intro xs i h0 h1 ht h2
    by_cases h : i + 1 < xs.length
    · rcases hn : nearB d xs i with _ | _
      · rw [← dropF_no h hn]
        exact ih xs (i + 1) (by omega) (by omega) ht h2
      · rw [← dropF_yes h hn]
        have hl := del_len (xs := xs) (i := i) (by omega)
        have := ih (del xs i) i (by omega) h1 (ht.del (by omega)) (by omega)
        exact ⟨this.1, this.2.1, by omega⟩
    · rw [dropF_end h]
      exact ⟨ht, h2, Nat.le_refl _⟩
theorem dropR_len (xs : List (Int × Int)) (d : Int) : (dropR xs d).1.length ≤ 2097152 := by
  unfold dropR
  split
  · rename_i h
    rw [Bool.and_eq_true] at h
    obtain ⟨ht, h2, h10⟩ := trk_of h.1
    have := (dropF_trk d _ xs 1 (Nat.le_refl _) (Nat.le_refl _) ht h2).2.2
    simp only
    omega
  · simp
end Go.Proofs.Ytmpgafanlgnpeaa
