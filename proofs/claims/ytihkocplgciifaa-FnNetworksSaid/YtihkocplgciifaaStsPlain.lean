/- Chapter 3, plain: lists of stations: each valid, their numbers rising, no two of a name, no two at a place. Nothing of the program is named. -/
import Derived.Test.YtihkocplgciifaaSts
import Derived.Test.YtihkocplgciifaaStA
namespace Go.Proofs.Ytihkocplgciifaa
open Go.RowKit

/-- g holds below n -/
def allB (g : Nat → Bool) : Nat → Bool
  | 0 => true
  | k + 1 => allB g k && g k
theorem allB_step {g : Nat → Bool} {k : Nat} (h : allB g k = true) (h1 : g k = true) : allB g (k + 1) = true := by rw [allB, h, h1]; rfl
theorem allB_later {g : Nat → Bool} {k : Nat} (h : allB g k = false) : ∀ j, k ≤ j → allB g j = false := by
  intro j hj
  induction j with
  | zero => obtain rfl : k = 0 := by omega
            exact h
  | succ j ih =>
    rcases Nat.lt_or_ge j k with h1 | h1
    · obtain rfl : k = j + 1 := by omega
      exact h
    · rw [allB, ih h1]; rfl
theorem allB_no {g : Nat → Bool} {k n : Nat} (hk : k < n) (h : g k = false) : allB g n = false :=
  allB_later (k := k + 1) (by rw [allB, h, Bool.and_false]) n hk
theorem allB_at {g : Nat → Bool} {n : Nat} (h : allB g n = true) : ∀ k, k < n → g k = true := by
  induction n with
  | zero => intro k hk; omega
  | succ n ih =>
    rw [allB, Bool.and_eq_true] at h
    intro k hk
    rcases Nat.lt_or_ge k n with h1 | h1
    · exact ih h.1 k h1
    · obtain rfl : k = n := by omega
      exact h.2
theorem allB_of {g : Nat → Bool} {n : Nat} (h : ∀ k, k < n → g k = true) : allB g n = true := by
  induction n with
  | zero => rfl
  | succ n ih => rw [allB, h n (by omega), ih (fun k hk => h k (by omega))]; rfl

def okSt (s : St) : Bool := stB s.id s.nm s.x s.y s.gn s.lw s.hg s.ut
def stAt (xs : List St) (k : Nat) : St := xs.getD k zSt
theorem stAt_of {xs : List St} {k : Nat} {s : St} (h : xs[k]? = some s) : stAt xs k = s := by unfold stAt; rw [List.getD_eq_getElem?_getD, h]; rfl
/-- station k is valid and its number is greater than that of the one before -/
def nxB (xs : List St) (k : Nat) : Bool := okSt (stAt xs k) && (decide (k = 0) || decide ((stAt xs (k - 1)).id < (stAt xs k).id))
def nmB (xs : List St) (i j : Nat) : Bool := !decide ((stAt xs i).nm = (stAt xs j).nm)
def plB (xs : List St) (i j : Nat) : Bool := !(decide ((stAt xs i).x = (stAt xs j).x) && decide ((stAt xs i).y = (stAt xs j).y))
def lstB (xs : List St) : Bool := allB (nxB xs) xs.length && decide (xs.length ≤ 10)
def nmsB (xs : List St) (n : Nat) : Bool := allB (fun j => allB (fun i => nmB xs i j) j) n
def plsB (xs : List St) (n : Nat) : Bool := allB (fun j => allB (fun i => plB xs i j) j) n
/-- the stations of an observatory -/
def stsB (xs : List St) : Bool := lstB xs && (nmsB xs xs.length && plsB xs xs.length)
theorem nxB_zero {xs : List St} {s : St} (h : xs[0]? = some s) : nxB xs 0 = okSt s := by
  unfold nxB
  rw [stAt_of h]
  simp
theorem nxB_next {xs : List St} {k : Nat} {s s' : St} (h : xs[k]? = some s) (hk : 1 ≤ k) (h' : xs[k - 1]? = some s') : nxB xs k = (okSt s && decide (s'.id < s.id)) := by
  unfold nxB
  rw [stAt_of h, stAt_of h']
  have : decide (k = 0) = false := by simp; omega
  rw [this, Bool.false_or]
/-- what a list of stations is, in numbers -/
structure Stn (xs : List St) : Prop where
  len : xs.length ≤ 10
  ok : ∀ k, k < xs.length → okSt (stAt xs k) = true
  up : ∀ k, k + 1 < xs.length → (stAt xs k).id < (stAt xs (k + 1)).id
  nm : ∀ i j, i < j → j < xs.length → (stAt xs i).nm ≠ (stAt xs j).nm
  pl : ∀ i j, i < j → j < xs.length → ¬ ((stAt xs i).x = (stAt xs j).x ∧ (stAt xs i).y = (stAt xs j).y)
theorem lst_len {xs : List St} (h : lstB xs = true) : xs.length ≤ 10 := by
  unfold lstB at h
  rw [Bool.and_eq_true] at h
  exact of_decide_eq_true h.2
theorem stn_of {xs : List St} (h : stsB xs = true) : Stn xs := by
  unfold stsB lstB nmsB plsB at h
  simp only [Bool.and_eq_true, decide_eq_true_eq] at h
  obtain ⟨⟨h1, h2⟩, h3, h4⟩ := h
  refine ⟨h2, fun k hk => ?_, fun k hk => ?_, fun i j hij hj => ?_, fun i j hij hj => ?_⟩
  · have := allB_at h1 k hk
    unfold nxB at this
    rw [Bool.and_eq_true] at this
    exact this.1
  · have := allB_at h1 (k + 1) hk
    unfold nxB at this
    rw [Bool.and_eq_true] at this
    simpa using this.2
  · have := allB_at (allB_at h3 j hj) i hij
    simpa [nmB] using this
  · have := allB_at (allB_at h4 j hj) i hij
    rintro ⟨e1, e2⟩
    simp [plB, e1, e2] at this
theorem stsB_of {xs : List St} (h : Stn xs) : stsB xs = true := by
  unfold stsB lstB nmsB plsB
  simp only [Bool.and_eq_true, decide_eq_true_eq]
  refine ⟨⟨allB_of fun k hk => ?_, h.len⟩, allB_of fun j hj => allB_of fun i hi => ?_, allB_of fun j hj => allB_of fun i hi => ?_⟩
  · unfold nxB
    rw [h.ok k hk, Bool.true_and]
    rcases Nat.eq_zero_or_pos k with h0 | h0
    · subst h0; rfl
    · have := h.up (k - 1) (by omega)
      rw [show k - 1 + 1 = k by omega] at this
      simp [this]
  · have := h.nm i j hi hj
    simp [nmB, this]
  · have := h.pl i j hi hj
    cases hb : plB xs i j
    · exact absurd (by simpa [plB] using hb) this
    · rfl
end Go.Proofs.Ytihkocplgciifaa
