/- Chapter 5, plain: marks put in order; a mark put to its place. Nothing of the program is named. -/
import Derived.Test.YtmpgafanlgnpeaaSortPlain
import Derived.Test.YtmpgafanlgnpeaaClkPlain
namespace Go.Proofs.Ytmpgafanlgnpeaa
open Go.RowKit

/-- a mark behind all that show no more -/
def insO (m : Int × Int) : List (Int × Int) → List (Int × Int)
  | [] => [m]
  | x :: l => if m.1 < x.1 then m :: x :: l else x :: insO m l
/-- marks in the order of what they show, equals in their order -/
def osort (xs : List (Int × Int)) : List (Int × Int) := xs.foldl (fun l m => insO m l) []
def Asc (l : List (Int × Int)) : Prop := l.Pairwise fun x y => x.1 ≤ y.1
theorem insO_mem {m z : Int × Int} : ∀ {l : List (Int × Int)}, z ∈ insO m l ↔ z = m ∨ z ∈ l
  | [] => by simp [insO]
  | x :: l => by
    unfold insO
    split
    · simp
    · rw [List.mem_cons, insO_mem, List.mem_cons]
      constructor
      · rintro (h | h | h)
        · exact .inr (.inl h)
        · exact .inl h
        · exact .inr (.inr h)
      · rintro (h | h | h)
        · exact .inr (.inl h)
        · exact .inl h
        · exact .inr (.inr h)
theorem insO_asc {m : Int × Int} : ∀ {l : List (Int × Int)}, Asc l → Asc (insO m l)
  | [], _ => by simp [insO, Asc]
  | x :: l, h => by
    obtain ⟨h1, h2⟩ := List.pairwise_cons.1 h
    unfold insO
    split
    · rename_i hlt
      refine List.pairwise_cons.2 ⟨fun z hz => ?_, h⟩
      rcases List.mem_cons.1 hz with rfl | hz
      · omega
      · have := h1 z hz; omega
    · rename_i hge
      refine List.pairwise_cons.2 ⟨fun z hz => ?_, insO_asc h2⟩
      rcases insO_mem.1 hz with rfl | hz
      · omega
      · exact h1 z hz
theorem insO_fil {m : Int × Int} (v : Int) : ∀ {l : List (Int × Int)}, Asc l → ((insO m l).filter fun x => decide (x.1 = v)) = (l.filter fun x => decide (x.1 = v)) ++ [m].filter fun x => decide (x.1 = v)
  | [], _ => by simp [insO]
  | x :: l, h => by
    obtain ⟨h1, h2⟩ := List.pairwise_cons.1 h
    unfold insO
    split
    · rename_i hlt
      by_cases hm : m.1 = v
      · have : ((x :: l).filter fun x => decide (x.1 = v)) = [] := by
          rw [List.filter_eq_nil_iff]
          intro z hz
          simp
          rcases List.mem_cons.1 hz with rfl | hz
          · omega
          · have := h1 z hz; omega
        rw [this, List.filter_cons, if_pos (by simpa using hm), this]
        simp [hm]
      · rw [List.filter_cons, if_neg (by simpa using hm)]
        simp [hm]
    · have ih := insO_fil (m := m) v h2
      by_cases hx : x.1 = v
      · rw [List.filter_cons_of_pos (by simpa using hx), List.filter_cons_of_pos (by simpa using hx), ih]; rfl
      · rw [List.filter_cons_of_neg (by simpa using hx), List.filter_cons_of_neg (by simpa using hx), ih]
theorem osort_go (xs : List (Int × Int)) : ∀ l, Asc l → Asc (xs.foldl (fun l m => insO m l) l) ∧ ∀ v : Int, ((xs.foldl (fun l m => insO m l) l).filter fun x => decide (x.1 = v)) = (l.filter fun x => decide (x.1 = v)) ++ xs.filter fun x => decide (x.1 = v) := by
  induction xs with
  | nil => intro l h; exact ⟨h, fun v => by simp⟩
  | cons m xs ih =>
    intro l h
    obtain ⟨h1, h2⟩ := ih (insO m l) (insO_asc h)
    refine ⟨h1, fun v => ?_⟩
    rw [List.foldl_cons, h2, insO_fil v h, List.filter_cons]
    simp only [List.filter_cons, List.filter_nil]
    split <;> simp
theorem osort_asc (xs : List (Int × Int)) : Asc (osort xs) := (osort_go xs [] List.Pairwise.nil).1
theorem osort_fil (xs : List (Int × Int)) (v : Int) : ((osort xs).filter fun x => decide (x.1 = v)) = xs.filter fun x => decide (x.1 = v) := by
  have := (osort_go xs [] List.Pairwise.nil).2 v
  unfold osort
  simpa using this
theorem asc_srt {l : List (Int × Int)} (h : Asc l) : Srt Prod.fst 0 l.length l := fun i j x y _ h2 h3 hx hy => by
  have h4 := List.pairwise_iff_getElem.1 h i j (by omega) h3 h2
  have ex : l[i] = x := Option.some.inj ((List.getElem?_eq_getElem (by omega)).symm.trans hx)
  have ey : l[j] = y := Option.some.inj ((List.getElem?_eq_getElem h3).symm.trans hy)
  rw [ex, ey] at h4
  exact h4
/-- what the sort leaves -/
theorem osort_of {xs ys : List (Int × Int)} {n : Nat} (hn : xs.length = n) (h : SR Prod.fst 0 n xs ys) (hs : Srt Prod.fst 0 n ys) : ys = osort xs :=
  sorted_unique (key := Prod.fst) ys (osort xs) (by rw [h.len, hn]; exact hs) (asc_srt (osort_asc xs)) (fun v => by rw [h.fil]; exact (osort_fil xs v).symm)
theorem insO_len (m : Int × Int) : ∀ l, (insO m l).length = l.length + 1
  | [] => rfl
  | x :: l => by unfold insO; split <;> simp [insO_len m l]
theorem osort_len (xs : List (Int × Int)) : (osort xs).length = xs.length := by
  have : ∀ (xs l : List (Int × Int)), (xs.foldl (fun l m => insO m l) l).length = l.length + xs.length := by
    intro xs
    induction xs with
    | nil => intro l; simp
    | cons m xs ih => intro l; rw [List.foldl_cons, ih, insO_len, List.length_cons]; omega
  have := this xs []
  simpa [osort] using this

/-! ### tracks -/
theorem trk_asc {l : List (Int × Int)} (h : Trk l) : l.Pairwise fun x y => x.1 < y.1 := by
  rw [List.pairwise_iff_getElem]
  intro i j hi hj hij
  have := h.sh_lt hij hj
  rwa [sh_of (List.getElem?_eq_getElem hi), sh_of (List.getElem?_eq_getElem hj)] at this
/-- of a list that rises strictly each filter has one element at most -/
theorem strict_fil {l : List (Int × Int)} (h : l.Pairwise fun x y => x.1 < y.1) (v : Int) : (l.filter fun x => decide (x.1 = v)).length ≤ 1 := by
  induction l with
  | nil => simp
  | cons x l ih =>
    obtain ⟨h1, h2⟩ := List.pairwise_cons.1 h
    rw [List.filter_cons]
    split
    · rename_i hx
      have : (l.filter fun x => decide (x.1 = v)) = [] := by
        rw [List.filter_eq_nil_iff]
        intro z hz
        have := h1 z hz
        simp at hx
        simp
        omega
      rw [this]; simp
    · exact ih h2
theorem perm_short {α : Type} {a b : List α} (h : a.Perm b) (ha : a.length ≤ 1) : a = b := by
  match a, b, ha with
  | [], b, _ => exact (List.nil_perm.1 h).symm
  | [x], b, _ => exact List.singleton_perm.1 h
/-- two ordered lists of the same elements, one of which rises strictly, are one -/
theorem asc_unique {l l' : List (Int × Int)} (h : Asc l) (h' : Asc l') (hp : l.Perm l') (hs : (l.Pairwise fun x y => x.1 < y.1) ∨ (l'.Pairwise fun x y => x.1 < y.1)) : l = l' :=
  sorted_unique (key := Prod.fst) l l' (asc_srt h) (asc_srt h') fun v => by
    rcases hs with hs | hs
    · exact perm_short (hp.filter _) (strict_fil hs v)
    · exact (perm_short (hp.filter _).symm (strict_fil hs v)).symm
theorem insO_perm (m : Int × Int) : ∀ l, (insO m l).Perm (m :: l)
  | [] => by simp [insO]
  | x :: l => by
    unfold insO
    split
    · exact List.Perm.refl _
    · exact ((insO_perm m l).cons x).trans (List.Perm.swap m x l)
theorem osort_perm (xs : List (Int × Int)) : (osort xs).Perm xs := by
  have : ∀ (xs l : List (Int × Int)), (xs.foldl (fun l m => insO m l) l).Perm (l ++ xs) := by
    intro xs
    induction xs with
    | nil => intro l; simp
    | cons m xs ih =>
      intro l
      rw [List.foldl_cons]
      refine (ih _).trans ?_
      have h1 := (insO_perm m l).append_right xs
      exact h1.trans (by simpa using (List.perm_middle (l₁ := l) (l₂ := xs) (a := m)).symm)
  have := this xs []
  simpa [osort] using this
/-- the reference's way: a mark ahead of all that show no less -/
def putK (m : Int × Int) : List (Int × Int) → Nat
  | [] => 0
  | x :: l => if x.1 < m.1 then putK m l + 1 else 0
def putF (m : Int × Int) (l : List (Int × Int)) : List (Int × Int) := l.take (putK m l) ++ [m] ++ l.drop (putK m l)
theorem putF_cons (m x : Int × Int) (l : List (Int × Int)) : putF m (x :: l) = if x.1 < m.1 then x :: putF m l else m :: x :: l := by
  unfold putF
  rw [putK]
  split <;> simp
theorem putF_perm (m : Int × Int) (l : List (Int × Int)) : (putF m l).Perm (m :: l) := by
  unfold putF
  have := List.perm_middle (l₁ := l.take (putK m l)) (l₂ := l.drop (putK m l)) (a := m)
  rw [List.take_append_drop] at this
  simpa using this
theorem putF_asc {m : Int × Int} : ∀ {l : List (Int × Int)}, Asc l → Asc (putF m l)
  | [], _ => by simp [putF, putK, Asc]
  | x :: l, h => by
    obtain ⟨h1, h2⟩ := List.pairwise_cons.1 h
    rw [putF_cons]
    split
    · rename_i hlt
      refine List.pairwise_cons.2 ⟨fun z hz => ?_, putF_asc h2⟩
      rcases List.mem_cons.1 ((putF_perm m l).mem_iff.1 hz) with rfl | hz
      · omega
      · exact h1 z hz
    · rename_i hge
      refine List.pairwise_cons.2 ⟨fun z hz => ?_, h⟩
      rcases List.mem_cons.1 hz with rfl | hz
      · omega
      · have := h1 z hz; omega
theorem putF_len (m : Int × Int) (l : List (Int × Int)) : (putF m l).length = l.length + 1 := by
  have := (putF_perm m l).length_eq
  simpa using this
theorem trk_asc' {l : List (Int × Int)} (h : Trk l) : Asc l := (trk_asc h).imp fun h => Int.le_of_lt h
/-- a mark more: both ways say the same -/
theorem add_same {xs : List (Int × Int)} (m : Int × Int) (ht : Trk xs) : (trkB (osort (xs ++ [m])) = trkB (putF m xs)) ∧ (trkB (putF m xs) = true → osort (xs ++ [m]) = putF m xs) := by
  have hp : (osort (xs ++ [m])).Perm (putF m xs) := (osort_perm _).trans ((List.perm_append_comm (l₁ := xs) (l₂ := [m])).trans (putF_perm m xs).symm)
  have ha := osort_asc (xs ++ [m])
  have hb := putF_asc (m := m) (trk_asc' ht)
  have hE : trkB (putF m xs) = true ∨ trkB (osort (xs ++ [m])) = true → osort (xs ++ [m]) = putF m xs := fun h =>
    asc_unique ha hb hp (h.symm.imp (fun h => trk_asc (trk_of h).1) (fun h => trk_asc (trk_of h).1))
  refine ⟨?_, fun h => hE (.inl h)⟩
  rcases h1 : trkB (putF m xs) with _ | _
  · rcases h2 : trkB (osort (xs ++ [m])) with _ | _
    · rfl
    · rw [hE (.inr h2), h1] at h2; cases h2
  · rw [hE (.inl h1), h1]
/-- a track with a mark more, whether it is one -/
def addR (xs : List (Int × Int)) (m : Int × Int) : List (Int × Int) × Bool := if (trkB xs && trkB (osort (xs ++ [m]))) = true then (osort (xs ++ [m]), true) else ([], false)
theorem addR_len (xs : List (Int × Int)) (m : Int × Int) : (addR xs m).1.length ≤ 2097152 := by
  unfold addR
  split
  · rename_i h
    rw [Bool.and_eq_true] at h
    have := (trk_of h.2).2.2
    simp only
    omega
  · simp
end Go.Proofs.Ytmpgafanlgnpeaa
