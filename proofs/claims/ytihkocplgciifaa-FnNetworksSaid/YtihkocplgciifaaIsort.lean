/- Plain: a list put in order by a key, equals in their order: at any type. Nothing of the program is named. (By gen_isort.py.) -/
import Derived.Test.YtihkocplgciifaaSortPlain
namespace Go.Proofs.Ytihkocplgciifaa
open Go.RowKit

section
variable {α : Type} {key : α → Int}
/-- a mark behind all that show no more -/
def insG (key : α → Int) (m : α) : List α → List α
  | [] => [m]
  | x :: l => if key m < key x then m :: x :: l else x :: insG key m l
/-- marks in the order of what they show, equals in their order -/
def isort (key : α → Int) (xs : List α) : List α := xs.foldl (fun l m => insG key m l) []
def AscG (key : α → Int) (l : List α) : Prop := l.Pairwise fun x y => key x ≤ key y
theorem insG_mem {m z : α} : ∀ {l : List α}, z ∈ insG key m l ↔ z = m ∨ z ∈ l
  | [] => by simp [insG]
  | x :: l => by
    unfold insG
    split
    · simp
    · rw [List.mem_cons, insG_mem, List.mem_cons]
      constructor
      · rintro (h | h | h)
        · exact .inr (.inl h)
        · exact .inl h
        · exact .inr (.inr h)
      · rintro (h | h | h)
        · exact .inr (.inl h)
        · exact .inl h
        · exact .inr (.inr h)
theorem insG_asc {m : α} : ∀ {l : List α}, AscG key l → AscG key (insG key m l)
  | [], _ => by simp [insG, AscG]
  | x :: l, h => by
    obtain ⟨h1, h2⟩ := List.pairwise_cons.1 h
    unfold insG
    split
    · rename_i hlt
      refine List.pairwise_cons.2 ⟨fun z hz => ?_, h⟩
      rcases List.mem_cons.1 hz with rfl | hz
      · omega
      · have := h1 z hz; omega
    · rename_i hge
      refine List.pairwise_cons.2 ⟨fun z hz => ?_, insG_asc h2⟩
      rcases insG_mem.1 hz with rfl | hz
      · omega
      · exact h1 z hz
theorem insG_fil {m : α} (v : Int) : ∀ {l : List α}, AscG key l → ((insG key m l).filter fun x => decide (key x = v)) = (l.filter fun x => decide (key x = v)) ++ [m].filter fun x => decide (key x = v)
  | [], _ => by simp [insG]
  | x :: l, h => by
    obtain ⟨h1, h2⟩ := List.pairwise_cons.1 h
    unfold insG
    split
    · rename_i hlt
      by_cases hm : key m = v
      · have : ((x :: l).filter fun x => decide (key x = v)) = [] := by
          rw [List.filter_eq_nil_iff]
          intro z hz
          simp
          rcases List.mem_cons.1 hz with rfl | hz
          · omega
          · have := h1 z hz; omega
        rw [this, List.filter_cons, if_pos (by simpa using hm), this]
        simp [hm]
      · rw [List.filter_cons, if_neg (by simpa using hm)]
        simp [hm]
    · have ih := insG_fil (m := m) v h2
      by_cases hx : key x = v
      · rw [List.filter_cons_of_pos (by simpa using hx), List.filter_cons_of_pos (by simpa using hx), ih]; rfl
      · rw [List.filter_cons_of_neg (by simpa using hx), List.filter_cons_of_neg (by simpa using hx), ih]
theorem isort_go (xs : List α) : ∀ l, AscG key l → AscG key (xs.foldl (fun l m => insG key m l) l) ∧ ∀ v : Int, ((xs.foldl (fun l m => insG key m l) l).filter fun x => decide (key x = v)) = (l.filter fun x => decide (key x = v)) ++ xs.filter fun x => decide (key x = v) := by
  induction xs with
  | nil => intro l h; exact ⟨h, fun v => by simp⟩
  | cons m xs ih =>
    intro l h
    obtain ⟨h1, h2⟩ := ih (insG key m l) (insG_asc h)
    refine ⟨h1, fun v => ?_⟩
    rw [List.foldl_cons, h2, insG_fil v h, List.filter_cons]
    simp only [List.filter_cons, List.filter_nil]
    split <;> simp
theorem isort_asc (xs : List α) : AscG key (isort key xs) := (isort_go (key := key) xs [] List.Pairwise.nil).1
theorem isort_fil (xs : List α) (v : Int) : ((isort key xs).filter fun x => decide (key x = v)) = xs.filter fun x => decide (key x = v) := by
  have := (isort_go (key := key) xs [] List.Pairwise.nil).2 v
  unfold isort
  simpa using this
theorem ascG_srt {l : List α} (h : AscG key l) : Srt key 0 l.length l := fun i j x y _ h2 h3 hx hy => by
  have h4 := List.pairwise_iff_getElem.1 h i j (by omega) h3 h2
  have ex : l[i] = x := Option.some.inj ((List.getElem?_eq_getElem (by omega)).symm.trans hx)
  have ey : l[j] = y := Option.some.inj ((List.getElem?_eq_getElem h3).symm.trans hy)
  rw [ex, ey] at h4
  exact h4
/-- what the sort leaves -/
theorem isort_of {xs ys : List α} {n : Nat} (hn : xs.length = n) (h : SR key 0 n xs ys) (hs : Srt key 0 n ys) : ys = isort key xs :=
  sorted_unique (key := key) ys (isort key xs) (by rw [h.len, hn]; exact hs) (ascG_srt (isort_asc xs)) (fun v => by rw [h.fil]; exact (isort_fil xs v).symm)
theorem insG_len (m : α) : ∀ l, (insG key m l).length = l.length + 1
  | [] => rfl
  | x :: l => by unfold insG; split <;> simp [insG_len m l]
theorem isort_len (xs : List α) : (isort key xs).length = xs.length := by
  have : ∀ (xs l : List α), (xs.foldl (fun l m => insG key m l) l).length = l.length + xs.length := by
    intro xs
    induction xs with
    | nil => intro l; simp
    | cons x xs ih => intro l; rw [List.foldl_cons, ih, insG_len]; simp; omega
  have := this xs []
  simpa [isort] using this
/-- one more at its place -/
theorem isort_step (xs : List α) (k : Nat) {x : α} (hx : xs[k]? = some x) : isort key (xs.take (k + 1)) = insG key x (isort key (xs.take k)) := by
  unfold isort
  rw [List.take_add_one, hx, List.foldl_append]
  rfl
theorem insG_at (m : α) : ∀ (l : List α) (k : Nat), k ≤ l.length → (∀ x, 0 < k → l[k - 1]? = some x → key x ≤ key m) → (∀ j x, k ≤ j → l[j]? = some x → key m < key x) → AscG key l → insG key m l = l.take k ++ m :: l.drop k
  | [], k, hk, _, _, _ => by simp at hk; subst hk; rfl
  | x :: l, 0, _, _, h2, _ => by
    have := h2 0 x (Nat.le_refl _) rfl
    unfold insG
    rw [if_pos this]
    rfl
  | x :: l, k + 1, hk, h1, h2, h3 => by
    obtain ⟨p1, p2⟩ := List.pairwise_cons.1 h3
    have hx : ¬ key m < key x := by
      rcases k with _ | k
      · have := h1 x (by omega) rfl; omega
      · have hk' : k < l.length := by simp at hk; omega
        have h4 := h1 l[k] (by omega) (by simp)
        have h5 := p1 l[k] (List.getElem_mem hk')
        omega
    have ih := insG_at m l k (by simp at hk; omega) (fun y hk0 hy => h1 y (by omega) (by
      obtain ⟨q, rfl⟩ : ∃ q, k = q + 1 := ⟨k - 1, by omega⟩
      simpa using hy)) (fun j y hj hy => h2 (j + 1) y (by omega) (by simpa using hy)) p2
    unfold insG
    rw [if_neg hx, ih]
    rfl
end
end Go.Proofs.Ytihkocplgciifaa
