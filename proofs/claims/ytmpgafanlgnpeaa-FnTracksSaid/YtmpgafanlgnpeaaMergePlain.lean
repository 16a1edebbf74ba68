/- Chapter 5, plain: two tracks in one: equal neighbours struck, against marks put one by one. Nothing of the program is named. -/
import Derived.Test.YtmpgafanlgnpeaaOrdPlain
namespace Go.Proofs.Ytmpgafanlgnpeaa
open Go.RowKit

/-- a list without what equals its forerunner -/
def cmpct : List (Int × Int) → List (Int × Int)
  | [] => []
  | [x] => [x]
  | x :: y :: l => if x = y then cmpct (y :: l) else x :: cmpct (y :: l)
theorem cmpct_mem {z : Int × Int} : ∀ {l : List (Int × Int)}, z ∈ cmpct l ↔ z ∈ l
  | [] => by simp [cmpct]
  | [x] => by simp [cmpct]
  | x :: y :: l => by
    unfold cmpct
    have ih := cmpct_mem (z := z) (l := y :: l)
    split
    · rename_i h
      subst h
      rw [ih]
      simp
    · rw [List.mem_cons, ih, List.mem_cons (a := z) (b := x)]
theorem cmpct_head : ∀ (x : Int × Int) (l : List (Int × Int)), ∃ t, cmpct (x :: l) = x :: t
  | x, [] => ⟨[], rfl⟩
  | x, y :: l => by
    unfold cmpct
    split
    · rename_i h
      subst h
      exact cmpct_head x l
    · exact ⟨_, rfl⟩
theorem cmpct_asc : ∀ {l : List (Int × Int)}, Asc l → Asc (cmpct l)
  | [], _ => by simp [cmpct, Asc]
  | [x], _ => by simp [cmpct, Asc]
  | x :: y :: l, h => by
    obtain ⟨h1, h2⟩ := List.pairwise_cons.1 h
    unfold cmpct
    have ih := cmpct_asc h2
    split
    · exact ih
    · exact List.pairwise_cons.2 ⟨fun z hz => h1 z (cmpct_mem.1 hz), ih⟩
theorem cmpct_len : ∀ l : List (Int × Int), (cmpct l).length ≤ l.length
  | [] => by simp [cmpct]
  | [x] => by simp [cmpct]
  | x :: y :: l => by
    unfold cmpct
    have ih := cmpct_len (y :: l)
    split
    · simp only [List.length_cons] at ih ⊢; omega
    · simp only [List.length_cons] at ih ⊢; omega
/-- where what shows the same is the same, it rises strictly -/
theorem cmpct_strict : ∀ {l : List (Int × Int)}, Asc l → (∀ x y, x ∈ l → y ∈ l → x.1 = y.1 → x = y) → (cmpct l).Pairwise fun x y => x.1 < y.1
  | [], _, _ => by simp [cmpct]
  | [x], _, _ => by simp [cmpct]
  | x :: y :: l, h, hu => by
    obtain ⟨h1, h2⟩ := List.pairwise_cons.1 h
    have ih := cmpct_strict h2 fun a b ha hb => hu a b (List.mem_cons_of_mem _ ha) (List.mem_cons_of_mem _ hb)
    unfold cmpct
    split
    · exact ih
    · rename_i hne
      refine List.pairwise_cons.2 ⟨fun z hz => ?_, ih⟩
      have hz' := cmpct_mem.1 hz
      have hxy := h1 y (List.mem_cons_self ..)
      have hxy2 : x.1 < y.1 := by
        rcases Int.lt_or_eq_of_le hxy with h | h
        · exact h
        · exact absurd (hu x y (List.mem_cons_self ..) (by simp) h) hne
      rcases List.mem_cons.1 hz' with rfl | hz'
      · exact hxy2
      · have := (List.pairwise_cons.1 h2).1 z hz'
        omega

theorem cmpct_snoc (a b : Int × Int) : ∀ l : List (Int × Int), cmpct (l ++ [a] ++ [b]) = if a = b then cmpct (l ++ [a]) else cmpct (l ++ [a]) ++ [b]
  | [] => by
    simp only [List.nil_append, List.cons_append, cmpct]
    split <;> simp_all
  | [x] => by
    simp only [List.nil_append, List.cons_append, cmpct]
    by_cases h1 : x = a <;> by_cases h2 : a = b <;> simp [h1, h2]
  | x :: y :: l => by
    have ih := cmpct_snoc a b (y :: l)
    simp only [List.cons_append] at ih ⊢
    rw [cmpct, cmpct]
    by_cases h1 : x = y
    · rw [if_pos h1, if_pos h1, ih]
    · rw [if_neg h1, if_neg h1, ih]
      split <;> simp
theorem cmpct_step {xs : List (Int × Int)} {p : Nat} {a b : Int × Int} (h1 : xs[p]? = some a) (h2 : xs[p + 1]? = some b) : cmpct (xs.take (p + 1 + 1)) = if a = b then cmpct (xs.take (p + 1)) else cmpct (xs.take (p + 1)) ++ [b] := by
  have e1 : xs.take (p + 1) = xs.take p ++ [a] := by rw [List.take_add_one, h1]; rfl
  have e2 : xs.take (p + 1 + 1) = xs.take p ++ [a] ++ [b] := by rw [List.take_add_one, h2, e1]; rfl
  rw [e2, cmpct_snoc, e1]
/-- the reference's way: the marks of the second that the first lacks, put one by one -/
def putsF (a : List (Int × Int)) (l : List (Int × Int)) (b : List (Int × Int)) : List (Int × Int) := b.foldl (fun l m => if m ∈ a then l else putF m l) l
theorem putsF_perm (a : List (Int × Int)) : ∀ (b l : List (Int × Int)), (putsF a l b).Perm (l ++ b.filter fun m => decide (m ∉ a))
  | [], l => by simp [putsF]
  | m :: b, l => by
    have ih := putsF_perm a b (if m ∈ a then l else putF m l)
    unfold putsF at ih ⊢
    rw [List.foldl_cons]
    refine ih.trans ?_
    by_cases h : m ∈ a
    · rw [if_pos h, List.filter_cons_of_neg (by simpa using h)]
    · rw [if_neg h, List.filter_cons_of_pos (by simpa using h)]
      have h1 := (putF_perm m l).append_right (b.filter fun m => decide (m ∉ a))
      exact h1.trans (by simpa using (List.perm_middle (l₁ := l) (l₂ := b.filter fun m => decide (m ∉ a)) (a := m)).symm)
theorem putsF_asc (a : List (Int × Int)) : ∀ (b : List (Int × Int)) {l : List (Int × Int)}, Asc l → Asc (putsF a l b)
  | [], l, h => h
  | m :: b, l, h => by
    have ih := fun l' => putsF_asc a b (l := l')
    unfold putsF at ih ⊢
    rw [List.foldl_cons]
    refine ih _ ?_
    split
    · exact h
    · exact putF_asc h
theorem putsF_len (a : List (Int × Int)) (b l : List (Int × Int)) : (putsF a l b).length ≤ l.length + b.length := by
  have h := (putsF_perm a b l).length_eq
  rw [h, List.length_append]
  have := List.length_filter_le (fun m => decide (m ∉ a)) b
  omega
theorem strict_nodup {l : List (Int × Int)} (h : l.Pairwise fun x y => x.1 < y.1) : l.Nodup := h.imp fun h e => by subst e; omega
theorem nodup_perm {a b : List (Int × Int)} (h : a.Nodup) (h' : b.Nodup) (hm : ∀ x, x ∈ a ↔ x ∈ b) : a.Perm b := by
  rw [List.perm_iff_count]
  intro x
  by_cases hx : x ∈ a
  · have h1 := List.nodup_iff_count.1 h x
    have h2 := List.nodup_iff_count.1 h' x
    have h3 := List.one_le_count_iff.2 hx
    have h4 := List.one_le_count_iff.2 ((hm x).1 hx)
    omega
  · rw [List.count_eq_zero_of_not_mem hx, List.count_eq_zero_of_not_mem (fun h => hx ((hm x).2 h))]
theorem strict_inj {l : List (Int × Int)} (h : l.Pairwise fun x y => x.1 < y.1) {x y : Int × Int} (hx : x ∈ l) (hy : y ∈ l) (e : x.1 = y.1) : x = y := by
  induction l with
  | nil => cases hx
  | cons z l ih =>
    obtain ⟨h1, h2⟩ := List.pairwise_cons.1 h
    rcases List.mem_cons.1 hx with ex | hx'
    · rcases List.mem_cons.1 hy with ey | hy'
      · rw [ex, ey]
      · have := h1 y hy'; rw [ex] at e; omega
    · rcases List.mem_cons.1 hy with ey | hy'
      · have := h1 x hx'; rw [ey] at e; omega
      · exact ih h2 hx' hy'
/-- two tracks in one: both ways say the same -/
theorem merge_same {xs ys : List (Int × Int)} (hx : Trk xs) (hy : Trk ys) : (trkB (cmpct (osort (xs ++ ys))) = trkB (putsF xs xs ys)) ∧ (trkB (putsF xs xs ys) = true → cmpct (osort (xs ++ ys)) = putsF xs xs ys) := by
  have hS : (putsF xs xs ys).Nodup := by
    refine (putsF_perm xs ys xs).symm.nodup ?_
    rw [List.nodup_append]
    refine ⟨strict_nodup (trk_asc hx), (strict_nodup (trk_asc hy)).filter _, fun a ha b hb e => ?_⟩
    subst e
    have := (List.mem_filter.1 hb).2
    simp at this
    exact this ha
  have hm : ∀ z, z ∈ cmpct (osort (xs ++ ys)) ↔ z ∈ putsF xs xs ys := fun z => by
    rw [cmpct_mem, (osort_perm _).mem_iff, (putsF_perm xs ys xs).mem_iff, List.mem_append, List.mem_append, List.mem_filter]
    by_cases h : z ∈ xs <;> simp [h]
  have ha := cmpct_asc (osort_asc (xs ++ ys))
  have hb := putsF_asc xs ys (trk_asc' hx)
  have hE : trkB (putsF xs xs ys) = true ∨ trkB (cmpct (osort (xs ++ ys))) = true → cmpct (osort (xs ++ ys)) = putsF xs xs ys := fun h => by
    rcases h with h | h
    · have hs := trk_asc (trk_of h).1
      have hc := cmpct_strict (osort_asc (xs ++ ys)) fun x y h1 h2 e => strict_inj hs ((hm x).1 (cmpct_mem.2 h1)) ((hm y).1 (cmpct_mem.2 h2)) e
      exact asc_unique ha hb (nodup_perm (strict_nodup hc) hS hm) (.inl hc)
    · have hc := trk_asc (trk_of h).1
      exact asc_unique ha hb (nodup_perm (strict_nodup hc) hS hm) (.inl hc)
  refine ⟨?_, fun h => hE (.inl h)⟩
  rcases h1 : trkB (putsF xs xs ys) with _ | _
  · rcases h2 : trkB (cmpct (osort (xs ++ ys))) with _ | _
    · rfl
    · rw [hE (.inr h2), h1] at h2; cases h2
  · rw [hE (.inl h1), h1]
/-- two tracks in one, whether it is one -/
def mrgR (xs ys : List (Int × Int)) : List (Int × Int) × Bool := if (trkB xs && trkB ys && trkB (cmpct (osort (xs ++ ys)))) = true then (cmpct (osort (xs ++ ys)), true) else ([], false)
theorem mrgR_len (xs ys : List (Int × Int)) : (mrgR xs ys).1.length ≤ 2097152 := by
  unfold mrgR
  split
  · rename_i h
    rw [Bool.and_eq_true] at h
    have := (trk_of h.2).2.2
    simp only
    omega
  · simp
end Go.Proofs.Ytmpgafanlgnpeaa
