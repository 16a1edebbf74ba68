/- Chapter 3, plain: a station is calibrated anew: the first with the number, which is the only one. -/
import Derived.Test.YtihkocplgciifaaStsPlain
namespace Go.Proofs.Ytihkocplgciifaa

/-- the stations, the one at k with another gain and date -/
def newS (xs : List St) (g u : Int) (k : Nat) : List St := xs.set k { stAt xs k with gn := g, ut := u }
theorem newS_len (xs : List St) (g u : Int) (k : Nat) : (newS xs g u k).length = xs.length := by simp [newS]
/-- station k may be calibrated so -/
def fitB (xs : List St) (i g u : Int) (k : Nat) : Bool := decide ((stAt xs k).id = i) && (decide ((stAt xs k).ut ≤ u) && stsB (newS xs g u k))
def recR (xs : List St) (i g u : Int) : List St × Bool :=
  if stsB xs = true then
    match xs.findIdx? (fun s => s.id == i) with
    | some k => if fitB xs i g u k = true then (newS xs g u k, true) else ([], false)
    | none => ([], false)
  else ([], false)
theorem ids_up {xs : List St} (h : stsB xs = true) {i j : Nat} (hij : i < j) (hj : j < xs.length) : (stAt xs i).id < (stAt xs j).id := by
  unfold stsB lstB at h
  rw [Bool.and_eq_true, Bool.and_eq_true] at h
  have hn := allB_at h.1.1
  induction j with
  | zero => omega
  | succ j ih =>
    have hs : (stAt xs j).id < (stAt xs (j + 1)).id := by
      have := hn (j + 1) hj
      unfold nxB at this
      rw [Bool.and_eq_true, Bool.or_eq_true] at this
      rcases this.2 with h9 | h9
      · simp at h9
      · simpa using h9
    rcases Nat.lt_or_ge i j with h8 | h8
    · have := ih h8 (by omega)
      omega
    · obtain rfl : i = j := by omega
      exact hs
theorem rec_hit {xs : List St} {i g u : Int} {k : Nat} (h : stsB xs = true) (hk : k < xs.length) (hf : fitB xs i g u k = true) : recR xs i g u = (newS xs g u k, true) := by
  have hid : (stAt xs k).id = i := by
    unfold fitB at hf
    rw [Bool.and_eq_true] at hf
    exact of_decide_eq_true hf.1
  have e : ∀ j (hj : j < xs.length), xs[j] = stAt xs j := fun j hj => (stAt_of (List.getElem?_eq_getElem hj)).symm
  have hi : xs.findIdx? (fun s => s.id == i) = some k := by
    rw [List.findIdx?_eq_some_iff_getElem]
    refine ⟨hk, ?_, fun j hj => ?_⟩
    · rw [e k hk]; simpa using hid
    · have := ids_up h hj hk
      rw [e j (by omega)]
      simp
      omega
  unfold recR
  rw [if_pos h, hi]
  simp only
  rw [if_pos hf]
theorem rec_miss {xs : List St} {i g u : Int} (hf : ∀ k, k < xs.length → fitB xs i g u k = false) : recR xs i g u = ([], false) := by
  unfold recR
  split
  · rcases hi : xs.findIdx? (fun s => s.id == i) with _ | k
    · rw [hi]
    · have hk := (List.findIdx?_eq_some_iff_getElem.1 hi).1
      rw [hi]
      simp only
      rw [if_neg (by rw [hf k hk]; simp)]
  · rfl
theorem recR_len (xs : List St) (i g u : Int) : (recR xs i g u).1.length ≤ xs.length := by
  unfold recR
  split
  · split
    · split
      · rw [newS_len]; exact Nat.le_refl _
      · simp
    · simp
  · simp
end Go.Proofs.Ytihkocplgciifaa
