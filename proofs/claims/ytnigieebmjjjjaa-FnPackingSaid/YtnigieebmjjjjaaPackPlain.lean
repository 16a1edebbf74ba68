/- Chapter 4 in plain Lean, no program in sight: differences, folded numbers, bytes, and what both ways of reading bytes come to. -/
import Derived.Test.YtnigieebmjjjjaaWords
namespace Go.Proofs.Ytnigieebmjjjjaa

theorem getD_of {xs : List Int} {k : Nat} {x : Int} (hx : xs[k]? = some x) : xs.getD k 0 = x := by rw [List.getD_eq_getElem?_getD, hx]; rfl
/-- the difference at a place -/
def dAt (xs : List Int) (i : Nat) : Int := xs.getD i 0 - (if i = 0 then 0 else xs.getD (i - 1) 0)
def diffK (xs : List Int) (k : Nat) : List Int := (List.range k).map (dAt xs)
def diffI (xs : List Int) : List Int := diffK xs xs.length
theorem diffK_step (xs : List Int) (k : Nat) (x l : Int) (hx : xs[k]? = some x) (hl : l = if k = 0 then 0 else xs.getD (k - 1) 0) : diffK xs (k + 1) = diffK xs k ++ [x - l] := by
  unfold diffK
  rw [List.range_succ, List.map_append, List.map_singleton]
  unfold dAt
  rw [getD_of hx, ← hl]
theorem diffK_len (xs : List Int) (k : Nat) : (diffK xs k).length = k := by simp [diffK]
theorem diffI_len (xs : List Int) : (diffI xs).length = xs.length := diffK_len _ _

def foldI (d : Int) : Int := if d < 0 then -2 * d - 1 else 2 * d
def unfI (n : Int) : Int := if n % 2 = 1 then -((n + 1) / 2) else n / 2
theorem unf_fold (d : Int) : unfI (foldI d) = d := by
  unfold unfI foldI
  split <;> split <;> omega
theorem fold_unf (n : Int) (h : 0 ≤ n) : foldI (unfI n) = n := by
  unfold unfI foldI
  split <;> split <;> omega
theorem foldI_nonneg (d : Int) : 0 ≤ foldI d := by unfold foldI; split <;> omega
theorem foldI_le (d : Int) (h0 : -200000 ≤ d) (h1 : d ≤ 200000) : foldI d ≤ 400000 := by unfold foldI; split <;> omega

/-- the bytes of a folded number -/
def bytesI (n : Int) : List Int := if n < 192 then [n] else if n < 8384 then [192 + (n - 192) / 256, (n - 192) % 256] else [224 + (n - 8384) / 65536, (n - 8384) / 256 % 256, (n - 8384) % 256]
theorem bytesI_len (n : Int) : 1 ≤ (bytesI n).length ∧ (bytesI n).length ≤ 3 := by
  unfold bytesI
  split
  · simp
  · split <;> simp
def packK (xs : List Int) (k : Nat) : List Int := ((diffI xs).take k).flatMap fun d => bytesI (foldI d)
def packI (xs : List Int) : List Int := (diffI xs).flatMap fun d => bytesI (foldI d)
theorem packK_step (xs : List Int) (k : Nat) (d : Int) (hd : (diffI xs)[k]? = some d) : packK xs (k + 1) = packK xs k ++ bytesI (foldI d) := by
  unfold packK
  rw [List.take_add_one, hd, List.flatMap_append]
  simp
theorem packK_end (xs : List Int) (k : Nat) (h : xs.length ≤ k) : packK xs k = packI xs := by
  unfold packK packI
  rw [List.take_of_length_le (by rw [diffI_len]; exact h)]
theorem packK_len (xs : List Int) (k : Nat) : (packK xs k).length ≤ 3 * k := by
  induction k with
  | zero => simp [packK]
  | succ k ih =>
    rcases hd : (diffI xs)[k]? with _ | d
    · have e : packK xs (k + 1) = packK xs k := by
        unfold packK
        rw [List.take_add_one, hd]
        simp
      rw [e]
      omega
    · rw [packK_step xs k d hd, List.length_append]
      have := bytesI_len (foldI d)
      omega

/-- between the bounds of a sample; of a difference -/
def sOk (x : Int) : Prop := -100000 ≤ x ∧ x ≤ 100000
theorem dAt_range (xs : List Int) (h : ∀ x ∈ xs, -100000 ≤ x ∧ x ≤ 100000) (i : Nat) : -200000 ≤ dAt xs i ∧ dAt xs i ≤ 200000 := by
  have g : ∀ j, -100000 ≤ xs.getD j 0 ∧ xs.getD j 0 ≤ 100000 := by
    intro j
    rw [List.getD_eq_getElem?_getD]
    rcases hj : xs[j]? with _ | x
    · simp
    · exact h x (List.mem_of_getElem? hj)
  have h1 := g i
  have h2 := g (i - 1)
  unfold dAt
  split <;> omega
theorem diffI_range (xs : List Int) (h : ∀ x ∈ xs, -100000 ≤ x ∧ x ≤ 100000) {k : Nat} {d : Int} (hd : (diffI xs)[k]? = some d) : -200000 ≤ d ∧ d ≤ 200000 := by
  unfold diffI diffK at hd
  rw [List.getElem?_map] at hd
  rcases hr : (List.range xs.length)[k]? with _ | i
  · rw [hr] at hd; cases hd
  · rw [hr] at hd
    simp at hd
    rw [← hd]
    exact dAt_range xs h i

/-! ### from differences back to samples -/
def okStep (out : List Int) (last d : Int) : Bool := decide (-200000 ≤ d) && decide (d ≤ 200000) && (decide (-100000 ≤ last + d) && decide (last + d ≤ 100000)) && decide (out.length < 24)
/-- the samples that some differences make up, as far as they are samples -/
def readGo (out : List Int) (last : Int) : List Int → List Int
  | [] => out
  | d :: r => if okStep out last d then readGo (out ++ [last + d]) (last + d) r else out
def readI (ds : List Int) : List Int := readGo [] 0 ds
theorem readGo_hit (out : List Int) (last d : Int) (ds : List Int) (k : Nat) (hd : ds[k]? = some d) (h : okStep out last d = true) : readGo out last (ds.drop k) = readGo (out ++ [last + d]) (last + d) (ds.drop (k + 1)) := by
  obtain ⟨hk, e⟩ := List.getElem?_eq_some_iff.1 hd
  rw [List.drop_eq_getElem_cons hk, e]
  simp [readGo, h]
theorem readGo_stop (out : List Int) (last d : Int) (ds : List Int) (k : Nat) (hd : ds[k]? = some d) (h : okStep out last d = false) : readGo out last (ds.drop k) = out := by
  obtain ⟨hk, e⟩ := List.getElem?_eq_some_iff.1 hd
  rw [List.drop_eq_getElem_cons hk, e]
  simp [readGo, h]
theorem readGo_end (out : List Int) (last : Int) (ds : List Int) (k : Nat) (hk : ds.length ≤ k) : readGo out last (ds.drop k) = out := by
  rw [List.drop_of_length_le hk]
  rfl
theorem readGo_len (out : List Int) (last : Int) (ds : List Int) (h : out.length ≤ 24) : (readGo out last ds).length ≤ 24 ∧ (readGo out last ds).length ≤ out.length + ds.length := by
  induction ds generalizing out last with
  | nil => exact ⟨h, by simp [readGo]⟩
  | cons d r ih =>
    unfold readGo
    split
    · next hs =>
      have : out.length < 24 := by
        unfold okStep at hs
        simp only [Bool.and_eq_true, decide_eq_true_eq] at hs
        exact hs.2
      have := ih (out ++ [last + d]) (last + d) (by simp; omega)
      simp at this ⊢
      omega
    · simp
      exact h
theorem readGo_range (out : List Int) (last : Int) (ds : List Int) (h : ∀ x ∈ out, -100000 ≤ x ∧ x ≤ 100000) : ∀ x ∈ readGo out last ds, -100000 ≤ x ∧ x ≤ 100000 := by
  induction ds generalizing out last with
  | nil => exact h
  | cons d r ih =>
    unfold readGo
    split
    · next hs =>
      refine ih _ _ ?_
      unfold okStep at hs
      simp only [Bool.and_eq_true, decide_eq_true_eq] at hs
      intro x hx
      rcases List.mem_append.1 hx with h1 | h1
      · exact h x h1
      · simp at h1
        subst h1
        exact hs.1.2
    · exact h

/-! ### from bytes to differences -/
/-- one step: the folded number that begins at the head, and how many bytes it takes; none where it is torn -/
def nextI : List Int → Option (Int × Nat)
  | [] => none
  | b :: r => if b < 192 then some (b, 1) else if b < 224 then (match r with | c :: _ => some (192 + (b - 192) * 256 + c, 2) | [] => none)
    else (match r with | c :: e :: _ => some (8384 + (b - 224) * 65536 + c * 256 + e, 3) | _ => none)
def upGo : Nat → List Int → Nat → List Int → List Int × Nat
  | 0, out, k, _ => (out, k)
  | f + 1, out, k, bs => match nextI (bs.drop k) with
    | some (n, j) => upGo f (out ++ [unfI n]) (k + j) bs
    | none => (out, k)
def upI (bs : List Int) : List Int × Nat := upGo bs.length [] 0 bs
theorem nextI_j {bs : List Int} {n : Int} {j : Nat} (h : nextI bs = some (n, j)) : 1 ≤ j ∧ j ≤ bs.length := by
  unfold nextI at h
  split at h
  · cases h
  · next b r =>
    split at h
    · simp at h; simp; omega
    · split at h
      · split at h
        · simp at h; simp; omega
        · cases h
      · split at h
        · simp at h; simp; omega
        · cases h
end Go.Proofs.Ytnigieebmjjjjaa
