/- Plain: rearrangements of a list that keep equals in their order; sorted stretches; what a rotation and a merge do to them. Nothing of the program is named. -/
import Derived.Test.YtihkocplgciifaaWords
namespace Go.Proofs.Ytihkocplgciifaa

section
variable {α : Type} {key : α → Int}

/-- ys is xs with the elements from a up to b moved about, those of one key in their old order -/
structure SR (key : α → Int) (a b : Nat) (xs ys : List α) : Prop where
  len : ys.length = xs.length
  out : ∀ i, i < a ∨ b ≤ i → ys[i]? = xs[i]?
  fil : ∀ v : Int, (ys.filter fun x => decide (key x = v)) = xs.filter fun x => decide (key x = v)
/-- the elements from a up to b are in order -/
def Srt (key : α → Int) (a b : Nat) (xs : List α) : Prop := ∀ i j x y, a ≤ i → i < j → j < b → xs[i]? = some x → xs[j]? = some y → key x ≤ key y

theorem SR.refl (a b : Nat) (xs : List α) : SR key a b xs xs := ⟨rfl, fun _ _ => rfl, fun _ => rfl⟩
theorem SR.trans {a b : Nat} {xs ys zs : List α} (h : SR key a b xs ys) (h2 : SR key a b ys zs) : SR key a b xs zs :=
  ⟨h2.len.trans h.len, fun i hi => (h2.out i hi).trans (h.out i hi), fun v => (h2.fil v).trans (h.fil v)⟩
theorem SR.wide {a b a' b' : Nat} {xs ys : List α} (h : SR key a b xs ys) (ha : a' ≤ a) (hb : b ≤ b') : SR key a' b' xs ys :=
  ⟨h.len, fun i hi => h.out i (by omega), h.fil⟩

/-- the stretch from a up to b -/
def seg' (a b : Nat) (xs : List α) : List α := (xs.drop a).take (b - a)
theorem seg_split {a b : Nat} (h : a ≤ b) (xs : List α) : xs = xs.take a ++ (seg' a b xs ++ xs.drop b) := by
  unfold seg'
  have e : xs.drop b = (xs.drop a).drop (b - a) := by rw [List.drop_drop]; congr 1; omega
  rw [e, List.take_append_drop, List.take_append_drop]
theorem seg_get {a b i : Nat} (xs : List α) (h1 : a ≤ i) (h2 : i < b) : (seg' a b xs)[i - a]? = xs[i]? := by
  unfold seg'
  rw [List.getElem?_take, if_pos (by omega), List.getElem?_drop]
  congr 1
  omega
theorem take_out {a : Nat} {xs ys : List α} (h : ∀ i, i < a → ys[i]? = xs[i]?) : ys.take a = xs.take a := by
  apply List.ext_getElem?
  intro i
  rw [List.getElem?_take, List.getElem?_take]
  split
  · exact h i (by assumption)
  · rfl
theorem drop_out {b : Nat} {xs ys : List α} (h : ∀ i, b ≤ i → ys[i]? = xs[i]?) : ys.drop b = xs.drop b := by
  apply List.ext_getElem?
  intro i
  rw [List.getElem?_drop, List.getElem?_drop]
  exact h _ (by omega)
theorem SR.segF {a b : Nat} {xs ys : List α} (hab : a ≤ b) (h : SR key a b xs ys) (v : Int) : ((seg' a b ys).filter fun x => decide (key x = v)) = (seg' a b xs).filter fun x => decide (key x = v) := by
  have e := h.fil v
  rw [seg_split hab ys, seg_split hab xs, List.filter_append, List.filter_append, List.filter_append, List.filter_append, take_out (fun i hi => h.out i (.inl hi)), drop_out (fun i hi => h.out i (.inr hi))] at e
  exact List.append_cancel_right (List.append_cancel_left e)
/-- whatever stands in the stretch stood in it -/
theorem SR.mem {a b : Nat} {xs ys : List α} (h : SR key a b xs ys) {i : Nat} {x : α} (h1 : a ≤ i) (h2 : i < b) (hx : ys[i]? = some x) : ∃ j, a ≤ j ∧ j < b ∧ xs[j]? = some x := by
  have hm : x ∈ seg' a b ys := List.mem_of_getElem? (by rw [seg_get ys h1 h2]; exact hx)
  have hf : x ∈ (seg' a b ys).filter fun y => decide (key y = key x) := List.mem_filter.2 ⟨hm, by simp⟩
  rw [h.segF (by omega)] at hf
  obtain ⟨j, hj, e⟩ := List.getElem_of_mem (List.mem_filter.1 hf).1
  have hl : (seg' a b xs).length ≤ b - a := by unfold seg'; exact List.length_take_le _ _
  refine ⟨j + a, by omega, by omega, ?_⟩
  have := seg_get xs (show a ≤ j + a by omega) (show j + a < b by omega)
  rw [show j + a - a = j by omega, List.getElem?_eq_getElem hj, e] at this
  exact this.symm

theorem Srt.keep {a b : Nat} {xs ys : List α} (h : Srt key a b xs) (e : ∀ i, a ≤ i → i < b → ys[i]? = xs[i]?) : Srt key a b ys := fun i j x y h1 h2 h3 hx hy =>
  h i j x y h1 h2 h3 (by rw [← e i h1 (by omega)]; exact hx) (by rw [← e j (by omega) h3]; exact hy)
theorem Srt.less {a b a' b' : Nat} {xs : List α} (h : Srt key a b xs) (ha : a ≤ a') (hb : b' ≤ b) : Srt key a' b' xs := fun i j x y h1 h2 h3 hx hy => h i j x y (by omega) h2 (by omega) hx hy
theorem Srt.none_ {a b : Nat} {xs : List α} (h : b ≤ a + 1) : Srt key a b xs := fun i j x y h1 h2 h3 _ _ => by omega
/-- two sorted stretches side by side, the first no greater than the second -/
theorem Srt.join {a m b : Nat} {xs : List α} (h1 : Srt key a m xs) (h2 : Srt key m b xs) (h : ∀ i j x y, a ≤ i → i < m → m ≤ j → j < b → xs[i]? = some x → xs[j]? = some y → key x ≤ key y) : Srt key a b xs := fun i j x y q1 q2 q3 hx hy => by
  rcases Nat.lt_or_ge j m with hj | hj
  · exact h1 i j x y q1 q2 hj hx hy
  · rcases Nat.lt_or_ge i m with hi | hi
    · exact h i j x y q1 hi hj q3 hx hy
    · exact h2 i j x y hi q2 q3 hx hy

/-- a list with two places exchanged -/
def swp (xs : List α) (i j : Nat) : List α := match xs[i]?, xs[j]? with
  | some x, some y => (xs.set i y).set j x
  | _, _ => xs
theorem swp_of {xs : List α} {i j : Nat} {x y : α} (hx : xs[i]? = some x) (hy : xs[j]? = some y) : swp xs i j = (xs.set i y).set j x := by unfold swp; rw [hx, hy]
theorem swp_len (xs : List α) (i j : Nat) : (swp xs i j).length = xs.length := by
  unfold swp
  split <;> simp
theorem swp_get {xs : List α} {i j : Nat} {x y : α} (hx : xs[i]? = some x) (hy : xs[j]? = some y) (k : Nat) : (swp xs i j)[k]? = if k = j then some x else if k = i then some y else xs[k]? := by
  have hi : i < xs.length := (List.getElem?_eq_some_iff.1 hx).1
  have hj : j < xs.length := (List.getElem?_eq_some_iff.1 hy).1
  rw [swp_of hx hy, List.getElem?_set]
  by_cases h1 : j = k
  · subst h1
    simp [hj]
  · rw [if_neg h1, if_neg (fun e => h1 e.symm), List.getElem?_set]
    by_cases h2 : i = k
    · subst h2
      simp [hi]
    · rw [if_neg h2, if_neg (fun e => h2 e.symm)]

/-- two neighbours that fall are exchanged: equals keep their order -/
theorem SR.swap {xs : List α} {j : Nat} {x y : α} (hx : xs[j]? = some x) (hy : xs[j + 1]? = some y) (hlt : key y < key x) : SR key j (j + 2) xs (swp xs j (j + 1)) := by
  refine ⟨swp_len _ _ _, fun i hi => ?_, fun v => ?_⟩
  · rw [swp_get hx hy, if_neg (by omega), if_neg (by omega)]
  · have hl : j + 1 < xs.length := (List.getElem?_eq_some_iff.1 hy).1
    have e1 : xs = xs.take j ++ (x :: y :: xs.drop (j + 2)) := by
      have ex : xs[j] = x := Option.some.inj ((List.getElem?_eq_getElem (by omega)).symm.trans hx)
      have ey : xs[j + 1] = y := Option.some.inj ((List.getElem?_eq_getElem (by omega)).symm.trans hy)
      have h1 := List.drop_eq_getElem_cons (show j < xs.length by omega)
      have h2 := List.drop_eq_getElem_cons (show j + 1 < xs.length by omega)
      rw [ex] at h1
      rw [ey] at h2
      rw [← h2, ← h1, List.take_append_drop]
    have e2 : swp xs j (j + 1) = xs.take j ++ (y :: x :: xs.drop (j + 2)) := by
      apply List.ext_getElem?
      intro k
      rw [swp_get hx hy]
      have hlt' : (xs.take j).length = j := by rw [List.length_take]; omega
      rcases Nat.lt_or_ge k j with h1 | h1
      · rw [if_neg (by omega), if_neg (by omega), List.getElem?_append_left (by omega), List.getElem?_take, if_pos h1]
      · rw [List.getElem?_append_right (by omega), hlt']
        rcases (show k = j ∨ k = j + 1 ∨ j + 2 ≤ k by omega) with rfl | rfl | h3
        · rw [if_neg (by omega), if_pos rfl, Nat.sub_self]; rfl
        · rw [if_pos rfl, show j + 1 - j = 1 by omega]; rfl
        · rw [if_neg (by omega), if_neg (by omega)]
          obtain ⟨t, rfl⟩ : ∃ t, k = j + 2 + t := ⟨k - (j + 2), by omega⟩
          rw [show j + 2 + t - j = t + 2 by omega]
          simp [List.getElem?_drop]
    rw [e2]
    conv => rhs; rw [e1]
    rw [List.filter_append, List.filter_append]
    congr 1
    by_cases c1 : key x = v
    · have c2 : ¬ key y = v := by omega
      simp [List.filter_cons, c1, c2]
    · simp [List.filter_cons, c1]

/-- the stretch from s up to m behind that from m up to e -/
def rot (s m e : Nat) (xs : List α) : List α := xs.take s ++ (seg' m e xs ++ (seg' s m xs ++ xs.drop e))
theorem seg_len {a b : Nat} {xs : List α} (h : b ≤ xs.length) : (seg' a b xs).length = b - a := by
  unfold seg'
  rw [List.length_take, List.length_drop]
  omega
theorem rot_get {s m e : Nat} {xs : List α} (h1 : s ≤ m) (h2 : m ≤ e) (h3 : e ≤ xs.length) (k : Nat) : (rot s m e xs)[k]? = if k < s then xs[k]? else if k < s + (e - m) then xs[k - s + m]? else if k < e then xs[k - (e - m)]? else xs[k]? := by
  unfold rot
  have l1 : (xs.take s).length = s := by rw [List.length_take]; omega
  have l2 := seg_len (a := m) h3
  have l3 := seg_len (a := s) (b := m) (xs := xs) (by omega)
  split
  · rw [List.getElem?_append_left (by omega), List.getElem?_take, if_pos (by assumption)]
  · rw [List.getElem?_append_right (by omega), l1]
    split
    · rw [List.getElem?_append_left (by omega)]
      have := seg_get xs (a := m) (b := e) (i := k - s + m) (by omega) (by omega)
      rw [show k - s + m - m = k - s by omega] at this
      exact this
    · rw [List.getElem?_append_right (by omega), l2]
      split
      · rw [List.getElem?_append_left (by omega)]
        have := seg_get xs (a := s) (b := m) (i := k - (e - m)) (by omega) (by omega)
        rw [show k - (e - m) - s = k - s - (e - m) by omega] at this
        exact this
      · rw [List.getElem?_append_right (by omega), l3, List.getElem?_drop]
        congr 1
        omega
theorem rot_len {s m e : Nat} {xs : List α} (h1 : s ≤ m) (h2 : m ≤ e) (h3 : e ≤ xs.length) : (rot s m e xs).length = xs.length := by
  unfold rot
  rw [List.length_append, List.length_append, List.length_append, seg_len h3, seg_len (by omega), List.length_take, List.length_drop]
  omega
theorem split4 {s m e : Nat} (xs : List α) (h1 : s ≤ m) (h2 : m ≤ e) : xs = xs.take s ++ (seg' s m xs ++ (seg' m e xs ++ xs.drop e)) := by
  have e1 := seg_split h1 xs
  have e2 : xs.drop m = seg' m e xs ++ xs.drop e := by
    unfold seg'
    have : xs.drop e = (xs.drop m).drop (e - m) := by rw [List.drop_drop]; congr 1; omega
    rw [this, List.take_append_drop]
  rw [← e2]
  exact e1
/-- a rotation of two sorted stretches, the first greater than the second: equals keep their order -/
theorem SR.rot {s m e : Nat} {xs : List α} (h1 : s ≤ m) (h2 : m ≤ e) (h3 : e ≤ xs.length) (h : ∀ i j x y, s ≤ i → i < m → m ≤ j → j < e → xs[i]? = some x → xs[j]? = some y → key y < key x) : SR key s e xs (rot s m e xs) := by
  refine ⟨rot_len h1 h2 h3, fun i hi => ?_, fun v => ?_⟩
  · rw [rot_get h1 h2 h3]
    split
    · rfl
    · rw [if_neg (by omega), if_neg (by omega)]
  · have hmem : ∀ {a b : Nat} {x : α}, x ∈ seg' a b xs → ∃ i, a ≤ i ∧ i < b ∧ xs[i]? = some x := by
      intro a b x hx
      obtain ⟨j, hj, ej⟩ := List.getElem_of_mem hx
      have hl : (seg' a b xs).length ≤ b - a := by unfold seg'; exact List.length_take_le _ _
      refine ⟨j + a, by omega, by omega, ?_⟩
      have := seg_get xs (show a ≤ j + a by omega) (show j + a < b by omega)
      rw [show j + a - a = j by omega, List.getElem?_eq_getElem hj, ej] at this
      exact this.symm
    conv => rhs; rw [split4 xs h1 h2]
    unfold Go.Proofs.Ytihkocplgciifaa.rot
    simp only [List.filter_append]
    congr 1
    rw [← List.append_assoc, ← List.append_assoc]
    congr 1
    by_cases hv : ∃ x ∈ seg' s m xs, key x = v
    · obtain ⟨x, hx, rfl⟩ := hv
      have : ((seg' m e xs).filter fun y => decide (key y = key x)) = [] := by
        rw [List.filter_eq_nil_iff]
        intro y hy
        obtain ⟨i, i1, i2, i3⟩ := hmem hx
        obtain ⟨j, j1, j2, j3⟩ := hmem hy
        have := h i j x y i1 i2 j1 j2 i3 j3
        simp
        omega
      rw [this]
      simp
    · have : ((seg' s m xs).filter fun y => decide (key y = v)) = [] := by
        rw [List.filter_eq_nil_iff]
        intro y hy
        simp
        exact fun e => hv ⟨y, hy, e⟩
      rw [this]
      simp

/-- the step of the merge: behind the rotation both halves are two sorted stretches each, and the first half is no greater than the second -/
theorem sym_step {a m b s e mid : Nat} {xs : List α} (S1 : Srt key a m xs) (S2 : Srt key m b xs) (h1 : a ≤ s) (h2 : s ≤ m) (h3 : m ≤ e) (h4 : e ≤ b) (h5 : b ≤ xs.length) (hmid : mid = s + (e - m))
    (c1 : ∀ x y, a < s → e < b → xs[s - 1]? = some x → xs[e]? = some y → key x ≤ key y) (c2 : ∀ x y, s < m → m < e → xs[s]? = some x → xs[e - 1]? = some y → key y < key x) :
    SR key a b xs (rot s m e xs) ∧ Srt key a s (rot s m e xs) ∧ Srt key s mid (rot s m e xs) ∧ Srt key mid e (rot s m e xs) ∧ Srt key e b (rot s m e xs) ∧
      ∀ i j x y, a ≤ i → i < mid → mid ≤ j → j < b → (rot s m e xs)[i]? = some x → (rot s m e xs)[j]? = some y → key x ≤ key y := by
  have g := fun k => rot_get (xs := xs) h2 h3 (by omega : e ≤ xs.length) k
  have at_ : ∀ i, i < xs.length → ∃ x, xs[i]? = some x := fun i hi => ⟨_, List.getElem?_eq_getElem hi⟩
  -- every element of the left tail is greater than every one of the right head
  have hgt : ∀ i j x y, s ≤ i → i < m → m ≤ j → j < e → xs[i]? = some x → xs[j]? = some y → key y < key x := fun i j x y q1 q2 q3 q4 hx hy => by
    obtain ⟨x0, hx0⟩ := at_ s (by omega)
    obtain ⟨y0, hy0⟩ := at_ (e - 1) (by omega)
    have k1 := c2 x0 y0 (by omega) (by omega) hx0 hy0
    have k2 : key x0 ≤ key x := by
      rcases Nat.lt_or_ge s i with h | h
      · exact S1 s i x0 x h1 h q2 hx0 hx
      · obtain rfl : s = i := by omega
        rw [hx] at hx0; cases hx0; exact Int.le_refl _
    have k3 : key y ≤ key y0 := by
      rcases Nat.lt_or_ge j (e - 1) with h | h
      · exact S2 j (e - 1) y y0 q3 h (by omega) hy hy0
      · obtain rfl : j = e - 1 := by omega
        rw [hy] at hy0; cases hy0; exact Int.le_refl _
    omega
  -- every element of the left head is no greater than every one of the right tail
  have hle : ∀ i j x y, a ≤ i → i < s → e ≤ j → j < b → xs[i]? = some x → xs[j]? = some y → key x ≤ key y := fun i j x y q1 q2 q3 q4 hx hy => by
    obtain ⟨x0, hx0⟩ := at_ (s - 1) (by omega)
    obtain ⟨y0, hy0⟩ := at_ e (by omega)
    have k1 := c1 x0 y0 (by omega) (by omega) hx0 hy0
    have k2 : key x ≤ key x0 := by
      rcases Nat.lt_or_ge i (s - 1) with h | h
      · exact S1 i (s - 1) x x0 q1 h (by omega) hx hx0
      · obtain rfl : i = s - 1 := by omega
        rw [hx] at hx0; cases hx0; exact Int.le_refl _
    have k3 : key y0 ≤ key y := by
      rcases Nat.lt_or_ge e j with h | h
      · exact S2 e j y0 y h3 h q4 hy0 hy
      · obtain rfl : e = j := by omega
        rw [hy] at hy0; cases hy0; exact Int.le_refl _
    omega
  refine ⟨(SR.rot h2 h3 (by omega) hgt).wide h1 h4, ?_, ?_, ?_, ?_, ?_⟩
  · exact (S1.less (Nat.le_refl _) h2).keep fun i q1 q2 => by rw [g, if_pos q2]
  · intro i j x y q1 q2 q3 hx hy
    rw [g, if_neg (by omega), if_pos (by omega)] at hx hy
    exact S2 _ _ x y (by omega) (by omega) (by omega) hx hy
  · intro i j x y q1 q2 q3 hx hy
    rw [g, if_neg (by omega), if_neg (by omega), if_pos (by omega)] at hx hy
    exact S1 _ _ x y (by omega) (by omega) (by omega) hx hy
  · exact (S2.less h3 (Nat.le_refl _)).keep fun i q1 q2 => by rw [g, if_neg (by omega), if_neg (by omega), if_neg (by omega)]
  · intro i j x y q1 q2 q3 q4 hx hy
    rw [g] at hx hy
    rw [if_neg (by omega), if_neg (by omega)] at hy
    split at hx
    · split at hy
      · exact S1 _ _ x y q1 (by omega) (by omega) hx hy
      · exact hle _ _ x y q1 (by assumption) (by omega) q4 hx hy
    · rw [if_pos (by omega)] at hx
      split at hy
      · exact Int.le_of_lt (hgt _ _ y x (by omega) (by omega) (by omega) (by omega) hy hx)
      · exact S2 _ _ x y (by omega) (by omega) (by omega) hx hy

/-- when both halves are merged the whole is -/
theorem sym_join {a mid b : Nat} {xs ys zs : List α} (h1 : a ≤ mid) (h2 : mid ≤ b) (hA : SR key a mid xs ys) (hB : SR key mid b ys zs) (s1 : Srt key a mid ys) (s2 : Srt key mid b zs)
    (h : ∀ i j x y, a ≤ i → i < mid → mid ≤ j → j < b → xs[i]? = some x → xs[j]? = some y → key x ≤ key y) : SR key a b xs zs ∧ Srt key a b zs := by
  refine ⟨(hA.wide (Nat.le_refl _) h2).trans (hB.wide h1 (Nat.le_refl _)), Srt.join (m := mid) (s1.keep fun i q1 q2 => hB.out i (.inl q2)) s2 ?_⟩
  intro i j x y q1 q2 q3 q4 hx hy
  rw [hB.out i (.inl q2)] at hx
  obtain ⟨i', k1, k2, k3⟩ := hA.mem q1 q2 hx
  obtain ⟨j', l1, l2, l3⟩ := hB.mem q3 q4 hy
  rw [hA.out j' (.inr l1)] at l3
  exact h i' j' x y k1 k2 l1 l2 k3 l3

/-- a list in order is told by its elements of each key -/
theorem sorted_unique : ∀ (xs ys : List α), Srt key 0 xs.length xs → Srt key 0 ys.length ys → (∀ v : Int, (xs.filter fun x => decide (key x = v)) = ys.filter fun x => decide (key x = v)) → xs = ys
  | [], [], _, _, _ => rfl
  | [], y :: ys, _, _, h => by have := h (key y); simp at this
  | x :: xs, [], _, _, h => by have := h (key x); simp at this
  | x :: xs, y :: ys, hx, hy, h => by
    have lx : ∀ z ∈ x :: xs, key x ≤ key z := fun z hz => by
      rcases List.mem_cons.1 hz with rfl | hz
      · exact Int.le_refl _
      · obtain ⟨i, hi, e⟩ := List.getElem_of_mem hz
        exact hx 0 (i + 1) x z (Nat.le_refl _) (by omega) (by simp; omega) rfl (by simp [e, hi])
    have ly : ∀ z ∈ y :: ys, key y ≤ key z := fun z hz => by
      rcases List.mem_cons.1 hz with rfl | hz
      · exact Int.le_refl _
      · obtain ⟨i, hi, e⟩ := List.getElem_of_mem hz
        exact hy 0 (i + 1) y z (Nat.le_refl _) (by omega) (by simp; omega) rfl (by simp [e, hi])
    have m1 : x ∈ y :: ys := by
      have : x ∈ (x :: xs).filter fun z => decide (key z = key x) := List.mem_filter.2 ⟨by simp, by simp⟩
      rw [h] at this
      exact (List.mem_filter.1 this).1
    have m2 : y ∈ x :: xs := by
      have : y ∈ (y :: ys).filter fun z => decide (key z = key y) := List.mem_filter.2 ⟨by simp, by simp⟩
      rw [← h] at this
      exact (List.mem_filter.1 this).1
    have ek : key x = key y := Int.le_antisymm (lx y m2) (ly x m1)
    have exy : x = y := by
      have := h (key x)
      simp only [List.filter_cons, ek, decide_true, if_true] at this
      exact (List.cons.inj this).1
    subst exy
    have tl : Srt key 0 xs.length xs := fun i j z z' q1 q2 q3 hz hz' => hx (i + 1) (j + 1) z z' (by omega) (by omega) (by simp; omega) (by simpa using hz) (by simpa using hz')
    have tl' : Srt key 0 ys.length ys := fun i j z z' q1 q2 q3 hz hz' => hy (i + 1) (j + 1) z z' (by omega) (by omega) (by simp; omega) (by simpa using hz) (by simpa using hz')
    rw [sorted_unique xs ys tl tl' fun v => ?_]
    have := h v
    simp only [List.filter_cons] at this
    split at this
    · exact (List.cons.inj this).2
    · exact this

/-! ### one element sinks to its place -/
theorem swp_comm {xs : List α} {i j : Nat} (h : i ≠ j) : swp xs i j = swp xs j i := by
  apply List.ext_getElem?
  intro k
  rcases hi : xs[i]? with _ | x
  · simp [swp, hi]
  · rcases hj : xs[j]? with _ | y
    · simp [swp, hi, hj]
    · rw [swp_get hi hj, swp_get hj hi]
      by_cases h1 : k = j
      · subst h1
        rw [if_pos rfl, if_neg (fun e => h e.symm), if_pos rfl]
      · by_cases h2 : k = i
        · rw [if_neg h1, if_pos h2, if_pos h2]
        · rw [if_neg h1, if_neg h2, if_neg h2, if_neg h1]
/-- from a up to k all is in order but the element at j, which is less than what stands behind it -/
structure Ins (key : α → Int) (a j k : Nat) (xs : List α) : Prop where
  le : ∀ i i' x y, a ≤ i → i < i' → i' ≤ k → i ≠ j → i' ≠ j → xs[i]? = some x → xs[i']? = some y → key x ≤ key y
  lt : ∀ i' x y, j < i' → i' ≤ k → xs[j]? = some x → xs[i']? = some y → key x ≤ key y
theorem Ins.start {a k : Nat} {xs : List α} (h : Srt key a k xs) : Ins key a k k xs :=
  ⟨fun i i' x y h1 h2 h3 _ h5 hx hy => h i i' x y h1 h2 (by omega) hx hy, fun i' x y h1 h2 _ _ => by omega⟩
theorem Ins.swap {a j k : Nat} {xs : List α} {x y : α} (h : Ins key a (j + 1) k xs) (ha : a ≤ j) (hk : j + 1 ≤ k) (hx : xs[j]? = some x) (hy : xs[j + 1]? = some y) (hlt : key y < key x) : Ins key a j k (swp xs (j + 1) j) := by
  rw [swp_comm (by omega)]
  have g := fun m => swp_get hx hy m
  refine ⟨fun i i' u v h1 h2 h3 h4 h5 hu hv => ?_, fun i' u v h1 h2 hu hv => ?_⟩
  · rw [g] at hu hv
    by_cases c1 : i' = j + 1
    · rw [if_pos c1] at hv
      rw [if_neg (by omega), if_neg h4] at hu
      have : u = u := rfl
      cases hv
      exact h.le i j u x h1 (by omega) (by omega) (by omega) (by omega) hu hx
    · rw [if_neg c1, if_neg h5] at hv
      by_cases c2 : i = j + 1
      · rw [if_pos c2] at hu
        cases hu
        exact h.le j i' x v ha (by omega) h3 (by omega) (by omega) hx hv
      · rw [if_neg c2, if_neg h4] at hu
        exact h.le i i' u v h1 h2 h3 c2 c1 hu hv
  · rw [g] at hu hv
    rw [if_neg (by omega), if_pos rfl] at hu
    cases hu
    by_cases c1 : i' = j + 1
    · rw [if_pos c1] at hv
      cases hv
      omega
    · rw [if_neg c1, if_neg (by omega)] at hv
      exact h.lt i' y v (by omega) h2 hy hv
theorem Ins.end_ {a j k : Nat} {xs : List α} (h : Ins key a j k xs) (ha : a ≤ j) (hk : j ≤ k) (he : ∀ x y, a < j → xs[j - 1]? = some x → xs[j]? = some y → key x ≤ key y) (hl : k < xs.length) : Srt key a (k + 1) xs := by
  intro i i' x y h1 h2 h3 hx hy
  by_cases c1 : i = j
  · subst c1
    exact h.lt i' x y h2 (by omega) hx hy
  · by_cases c2 : i' = j
    · subst c2
      obtain ⟨z, hz⟩ : ∃ z, xs[i' - 1]? = some z := ⟨_, List.getElem?_eq_getElem (by omega)⟩
      have e1 := he z y (by omega) hz hy
      rcases Nat.lt_or_ge i (i' - 1) with h5 | h5
      · have := h.le i (i' - 1) x z h1 h5 (by omega) c1 (by omega) hx hz
        omega
      · obtain rfl : i = i' - 1 := by omega
        rw [hx] at hz
        cases hz
        exact e1
    · exact h.le i i' x y h1 h2 (by omega) c1 c2 hx hy
theorem SR.sink {a b j : Nat} {xs : List α} {x y : α} (ha : a ≤ j) (hb : j + 2 ≤ b) (hx : xs[j]? = some x) (hy : xs[j + 1]? = some y) (hlt : key y < key x) : SR key a b xs (swp xs (j + 1) j) := by
  rw [swp_comm (by omega)]
  exact (SR.swap hx hy hlt).wide ha hb

/-! ### exchanges of stretches, rotations by exchanges -/
/-- ys is xs with the m elements from a on and those from b on exchanged -/
structure XR (a b m : Nat) (xs ys : List α) : Prop where
  len : ys.length = xs.length
  get : ∀ k, ys[k]? = if a ≤ k ∧ k < a + m then xs[k - a + b]? else if b ≤ k ∧ k < b + m then xs[k - b + a]? else xs[k]?
theorem XR.zero (a b : Nat) (xs : List α) : XR a b 0 xs xs := ⟨rfl, fun k => by rw [if_neg (by omega), if_neg (by omega)]⟩
theorem XR.step {a b m : Nat} {xs ys : List α} {x y : α} (h : XR a b m xs ys) (hab : a + m < b) (hx : ys[a + m]? = some x) (hy : ys[b + m]? = some y) : XR a b (m + 1) xs (swp ys (a + m) (b + m)) := by
  refine ⟨by rw [swp_len]; exact h.len, fun k => ?_⟩
  rw [swp_get hx hy]
  have e1 := h.get (a + m)
  rw [if_neg (by omega), if_neg (by omega)] at e1
  have e2 := h.get (b + m)
  rw [if_neg (by omega), if_neg (by omega)] at e2
  by_cases c1 : k = b + m
  · subst c1
    rw [if_pos rfl, if_neg (by omega), if_pos (by omega), show b + m - b + a = a + m by omega, ← e1, hx]
  · rw [if_neg c1]
    by_cases c2 : k = a + m
    · subst c2
      rw [if_pos rfl, if_pos (by omega), show a + m - a + b = b + m by omega, ← e2, hy]
    · rw [if_neg c2, h.get]
      by_cases c3 : a ≤ k ∧ k < a + m
      · rw [if_pos c3, if_pos (by omega)]
      · rw [if_neg c3, if_neg (show ¬ (a ≤ k ∧ k < a + (m + 1)) by omega)]
        by_cases c4 : b ≤ k ∧ k < b + m
        · rw [if_pos c4, if_pos (by omega)]
        · rw [if_neg c4, if_neg (show ¬ (b ≤ k ∧ k < b + (m + 1)) by omega)]
theorem list_ext {xs ys : List α} (h : ∀ k : Nat, xs[k]? = ys[k]?) : xs = ys := List.ext_getElem? h
/-- the two stretches are of one length: one exchange -/
theorem XR.rot_eq {s p : Nat} {xs ys : List α} (h : XR s (s + p) p xs ys) (hl : s + p + p ≤ xs.length) : ys = rot s (s + p) (s + p + p) xs := list_ext fun k => by
  rw [h.get, rot_get (by omega) (by omega) hl]
  by_cases c1 : k < s
  · rw [if_neg (by omega), if_neg (by omega), if_pos c1]
  · rw [if_neg c1]
    by_cases c2 : k < s + p
    · rw [if_pos (by omega), if_pos (by omega)]
    · by_cases c3 : k < s + p + p
      · rw [if_neg (by omega), if_pos (by omega), if_neg (by omega), if_pos c3]
        congr 1
        omega
      · rw [if_neg (by omega), if_neg (by omega), if_neg (by omega), if_neg c3]
/-- the first stretch is longer -/
theorem XR.rot_left {s p q : Nat} {xs ys : List α} (h : XR s (s + p) q xs ys) (hpq : q < p) (hl : s + p + q ≤ xs.length) : rot (s + q) (s + p) (s + p + q) ys = rot s (s + p) (s + p + q) xs := list_ext fun k => by
  rw [rot_get (by omega) (by omega) (by rw [h.len]; exact hl), rot_get (by omega) (by omega) hl]
  by_cases c1 : k < s
  · rw [if_pos (by omega), if_pos c1, h.get, if_neg (by omega), if_neg (by omega)]
  · rw [if_neg c1]
    by_cases c2 : k < s + q
    · rw [if_pos c2, if_pos (by omega), h.get, if_pos (by omega)]
    · rw [if_neg c2, if_neg (show ¬ k < s + (s + p + q - (s + p)) by omega)]
      by_cases c3 : k < s + q + (s + p + q - (s + p))
      · rw [if_pos c3, h.get, if_neg (by omega), if_pos (by omega), if_pos (by omega)]
        congr 1
        omega
      · rw [if_neg c3]
        by_cases c4 : k < s + p + q
        · rw [if_pos c4, if_pos c4, h.get, if_neg (by omega), if_neg (by omega)]
        · rw [if_neg c4, if_neg c4, h.get, if_neg (by omega), if_neg (by omega)]
/-- the second stretch is longer -/
theorem XR.rot_right {s p q : Nat} {xs ys : List α} (h : XR s (s + q) p xs ys) (hpq : p < q) (hl : s + p + q ≤ xs.length) : rot s (s + p) (s + q) ys = rot s (s + p) (s + p + q) xs := list_ext fun k => by
  rw [rot_get (by omega) (by omega) (by rw [h.len]; omega), rot_get (by omega) (by omega) hl]
  by_cases c1 : k < s
  · rw [if_pos c1, if_pos c1, h.get, if_neg (by omega), if_neg (by omega)]
  · rw [if_neg c1, if_neg c1]
    by_cases c2 : k < s + (s + q - (s + p))
    · rw [if_pos c2, if_pos (by omega), h.get, if_neg (by omega)]
      by_cases c3 : s + q ≤ k - s + (s + p)
      · exfalso; omega
      · rw [if_neg (by omega)]
    · rw [if_neg c2]
      by_cases c3 : k < s + q
      · rw [if_pos c3, if_pos (by omega), h.get, if_pos (by omega)]
        congr 1
        omega
      · rw [if_neg c3, if_neg (show ¬ k < s + (s + p + q - (s + p)) by omega), h.get, if_neg (by omega)]
        by_cases c4 : k < s + p + q
        · rw [if_pos (by omega), if_pos c4]
          congr 1
          omega
        · rw [if_neg (by omega), if_neg c4]
theorem rot_none_left {s e : Nat} {xs : List α} (h1 : s ≤ e) (hl : e ≤ xs.length) : rot s s e xs = xs := list_ext fun k => by
  rw [rot_get (by omega) (by omega) hl]
  by_cases c1 : k < s
  · rw [if_pos c1]
  · rw [if_neg c1]
    by_cases c2 : k < s + (e - s)
    · rw [if_pos c2]; congr 1; omega
    · rw [if_neg c2, if_neg (by omega)]
theorem rot_none_right {s e : Nat} {xs : List α} (h1 : s ≤ e) (hl : e ≤ xs.length) : rot s e e xs = xs := list_ext fun k => by
  rw [rot_get (by omega) (by omega) hl]
  by_cases c1 : k < s
  · rw [if_pos c1]
  · rw [if_neg c1, if_neg (by omega)]
    by_cases c2 : k < e
    · rw [if_pos c2]; congr 1; omega
    · rw [if_neg c2]

/-! ### one element is carried to its place -/
/-- the element at a has gone right to k -/
structure MvR (a k : Nat) (xs ys : List α) : Prop where
  len : ys.length = xs.length
  get : ∀ t, ys[t]? = if a ≤ t ∧ t < k then xs[t + 1]? else if t = k then xs[a]? else xs[t]?
theorem MvR.start (a : Nat) (xs : List α) : MvR a a xs xs := ⟨rfl, fun t => by
  rw [if_neg (by omega)]
  split
  · subst_vars; rfl
  · rfl⟩
theorem MvR.step {a k : Nat} {xs ys : List α} {x y : α} (h : MvR a k xs ys) (hak : a ≤ k) (hx : ys[k]? = some x) (hy : ys[k + 1]? = some y) : MvR a (k + 1) xs (swp ys k (k + 1)) := by
  have e1 := h.get k
  rw [if_neg (by omega), if_pos rfl, hx] at e1
  have e2 := h.get (k + 1)
  rw [if_neg (by omega), if_neg (by omega), hy] at e2
  refine ⟨by rw [swp_len]; exact h.len, fun t => ?_⟩
  rw [swp_get hx hy]
  by_cases c1 : t = k + 1
  · rw [if_pos c1, if_neg (by omega), if_pos c1, e1]
  · rw [if_neg c1]
    by_cases c2 : t = k
    · rw [if_pos c2, if_pos (by omega), c2, e2]
    · rw [if_neg c2, h.get, if_neg c1]
      by_cases c3 : a ≤ t ∧ t < k
      · rw [if_pos c3, if_pos (by omega)]
      · rw [if_neg c3, if_neg c2, if_neg (by omega)]
/-- the element at m has gone left to k -/
structure MvL (m k : Nat) (xs ys : List α) : Prop where
  len : ys.length = xs.length
  get : ∀ t, ys[t]? = if k < t ∧ t ≤ m then xs[t - 1]? else if t = k then xs[m]? else xs[t]?
theorem MvL.start (m : Nat) (xs : List α) : MvL m m xs xs := ⟨rfl, fun t => by
  rw [if_neg (by omega)]
  split
  · subst_vars; rfl
  · rfl⟩
theorem MvL.step {m k : Nat} {xs ys : List α} {x y : α} (h : MvL m (k + 1) xs ys) (hkm : k + 1 ≤ m) (hx : ys[k]? = some x) (hy : ys[k + 1]? = some y) : MvL m k xs (swp ys (k + 1) k) := by
  rw [swp_comm (by omega)]
  have e1 := h.get k
  rw [if_neg (by omega), if_neg (by omega), hx] at e1
  have e2 := h.get (k + 1)
  rw [if_neg (by omega), if_pos rfl, hy] at e2
  refine ⟨by rw [swp_len]; exact h.len, fun t => ?_⟩
  rw [swp_get hx hy]
  by_cases c1 : t = k + 1
  · rw [if_pos c1, if_pos (by omega), c1, show k + 1 - 1 = k by omega, e1]
  · rw [if_neg c1]
    by_cases c2 : t = k
    · rw [if_pos c2, if_neg (by omega), if_pos c2, e2]
    · rw [if_neg c2, h.get]
      by_cases c3 : k + 1 < t ∧ t ≤ m
      · rw [if_pos c3, if_pos (by omega)]
      · rw [if_neg c3, if_neg c1, if_neg (by omega), if_neg c2]
theorem MvR.srt {a i b : Nat} {xs ys : List α} {x : α} (h : MvR a (i - 1) xs ys) (hai : a < i) (hib : i ≤ b) (hx : xs[a]? = some x) (S : Srt key (a + 1) b xs) (h1 : ∀ t y, a < t → t < i → xs[t]? = some y → key y ≤ key x) (h2 : ∀ t y, i ≤ t → t < b → xs[t]? = some y → key x ≤ key y) : Srt key a b ys := by
  intro t u y z q1 q2 q3 hy hz
  rw [h.get] at hy hz
  by_cases c1 : a ≤ t ∧ t < i - 1
  · rw [if_pos c1] at hy
    by_cases d1 : a ≤ u ∧ u < i - 1
    · rw [if_pos d1] at hz
      exact S (t + 1) (u + 1) y z (by omega) (by omega) (by omega) hy hz
    · rw [if_neg d1] at hz
      by_cases d2 : u = i - 1
      · rw [if_pos d2, hx] at hz
        cases hz
        exact h1 (t + 1) y (by omega) (by omega) hy
      · rw [if_neg d2] at hz
        have e1 := h1 (t + 1) y (by omega) (by omega) hy
        have e2 := h2 u z (by omega) (by omega) hz
        omega
  · rw [if_neg c1] at hy
    rw [if_neg (by omega)] at hz
    rw [if_neg (by omega)] at hz
    by_cases c2 : t = i - 1
    · rw [if_pos c2, hx] at hy
      cases hy
      exact h2 u z (by omega) q3 hz
    · rw [if_neg c2] at hy
      exact S t u y z (by omega) q2 q3 hy hz
theorem MvL.srt {a i m : Nat} {xs ys : List α} {x : α} (h : MvL m i xs ys) (hai : a ≤ i) (him : i ≤ m) (hx : xs[m]? = some x) (S : Srt key a m xs) (h1 : ∀ t y, a ≤ t → t < i → xs[t]? = some y → key y ≤ key x) (h2 : ∀ t y, i ≤ t → t < m → xs[t]? = some y → key x ≤ key y) : Srt key a (m + 1) ys := by
  intro t u y z q1 q2 q3 hy hz
  rw [h.get] at hy hz
  by_cases c1 : i < t ∧ t ≤ m
  · rw [if_pos c1] at hy
    rw [if_pos (by omega)] at hz
    exact S (t - 1) (u - 1) y z (by omega) (by omega) (by omega) hy hz
  · rw [if_neg c1] at hy
    by_cases c2 : t = i
    · rw [if_pos c2, hx] at hy
      rw [if_pos (by omega)] at hz
      cases hy
      exact h2 (u - 1) z (by omega) (by omega) hz
    · rw [if_neg c2] at hy
      by_cases d1 : i < u ∧ u ≤ m
      · rw [if_pos d1] at hz
        exact S t (u - 1) y z (by omega) (by omega) (by omega) hy hz
      · rw [if_neg d1] at hz
        by_cases d2 : u = i
        · rw [if_pos d2, hx] at hz
          cases hz
          exact h1 t y (by omega) (by omega) hy
        · rw [if_neg d2] at hz
          exact S t u y z q1 q2 (by omega) hy hz
end
end Go.Proofs.Ytihkocplgciifaa
