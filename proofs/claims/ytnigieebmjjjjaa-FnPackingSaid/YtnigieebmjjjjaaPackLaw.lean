/- Chapter 4 in plain Lean, no program in sight: what is unpacked and packed again is what was there just if all bytes are read and all differences are taken. -/
import Derived.Test.YtnigieebmjjjjaaPackPlain
namespace Go.Proofs.Ytnigieebmjjjjaa

theorem bytes_step {bs : List Int} {n : Int} {j : Nat} (hb : ∀ x ∈ bs, 0 ≤ x ∧ x ≤ 255) (h : nextI bs = some (n, j)) : 0 ≤ n ∧ bytesI n = bs.take j := by
  unfold nextI at h
  split at h
  · cases h
  · next b r =>
    have h0 := hb b (by simp)
    split at h
    · next h1 =>
      simp at h
      obtain ⟨rfl, rfl⟩ := h
      refine ⟨h0.1, ?_⟩
      unfold bytesI
      rw [if_pos h1]
      simp
    · next h1 =>
      split at h
      · next h2 =>
        split at h
        · next c r2 =>
          have hc := hb c (by simp)
          simp at h
          obtain ⟨rfl, rfl⟩ := h
          refine ⟨by omega, ?_⟩
          unfold bytesI
          rw [if_neg (by omega), if_pos (by omega)]
          simp
          omega
        · cases h
      · next h2 =>
        split at h
        · next c e r2 =>
          have hc := hb c (by simp)
          have he := hb e (by simp)
          simp at h
          obtain ⟨rfl, rfl⟩ := h
          refine ⟨by omega, ?_⟩
          unfold bytesI
          rw [if_neg (by omega), if_neg (by omega)]
          simp
          omega
        · cases h

theorem upGo_spec (f : Nat) (out : List Int) (k : Nat) (bs : List Int) (hb : ∀ x ∈ bs, 0 ≤ x ∧ x ≤ 255) (hk : k ≤ bs.length) :
    ∃ ds', (upGo f out k bs).1 = out ++ ds' ∧ k ≤ (upGo f out k bs).2 ∧ (upGo f out k bs).2 ≤ bs.length ∧ (ds'.flatMap fun d => bytesI (foldI d)) = (bs.drop k).take ((upGo f out k bs).2 - k) := by
  induction f generalizing out k with
  | zero => exact ⟨[], by simp [upGo], by simp [upGo], by simpa [upGo] using hk, by simp [upGo]⟩
  | succ f ih =>
    unfold upGo
    rcases hn : nextI (bs.drop k) with _ | ⟨n, j⟩
    · exact ⟨[], by simp, by simp, by simpa using hk, by simp⟩
    · have hj := nextI_j hn
      have hbd : ∀ x ∈ bs.drop k, 0 ≤ x ∧ x ≤ 255 := fun x hx => hb x (List.mem_of_mem_drop hx)
      obtain ⟨h0, h1⟩ := bytes_step hbd hn
      rw [List.length_drop] at hj
      obtain ⟨ds', e1, e2, e3, e4⟩ := ih (out ++ [unfI n]) (k + j) (by omega)
      refine ⟨unfI n :: ds', by simp [e1], by simp; omega, by simpa using e3, ?_⟩
      simp only
      rw [List.flatMap_cons, e4, fold_unf n h0, h1]
      have e5 : (upGo f (out ++ [unfI n]) (k + j) bs).2 - k = j + ((upGo f (out ++ [unfI n]) (k + j) bs).2 - (k + j)) := by omega
      rw [e5, List.take_add, List.drop_drop]

theorem dAt_snoc (xs : List Int) (x : Int) (i : Nat) (h : i < xs.length) : dAt (xs ++ [x]) i = dAt xs i := by
  unfold dAt
  have h1 : (xs ++ [x]).getD i 0 = xs.getD i 0 := by
    rw [List.getD_eq_getElem?_getD, List.getD_eq_getElem?_getD, List.getElem?_append_left h]
  have h2 : (xs ++ [x]).getD (i - 1) 0 = xs.getD (i - 1) 0 := by
    rw [List.getD_eq_getElem?_getD, List.getD_eq_getElem?_getD, List.getElem?_append_left (by omega)]
  rw [h1, h2]
def lastI (xs : List Int) : Int := if xs.length = 0 then 0 else xs.getD (xs.length - 1) 0
theorem lastI_snoc (xs : List Int) (x : Int) : lastI (xs ++ [x]) = x := by
  unfold lastI
  simp
theorem diffI_snoc (xs : List Int) (x : Int) : diffI (xs ++ [x]) = diffI xs ++ [x - lastI xs] := by
  have e : diffI (xs ++ [x]) = diffK (xs ++ [x]) (xs.length + 1) := by unfold diffI; simp
  have hl : lastI xs = if xs.length = 0 then 0 else (xs ++ [x]).getD (xs.length - 1) 0 := by
    unfold lastI
    split
    · rfl
    · rw [List.getD_eq_getElem?_getD, List.getD_eq_getElem?_getD, List.getElem?_append_left (by omega)]
  rw [e, diffK_step (xs ++ [x]) xs.length x (lastI xs) (by simp) hl]
  congr 1
  unfold diffI diffK
  apply List.map_congr_left
  intro i hi
  exact dAt_snoc xs x i (by simpa using hi)
theorem diff_readGo (out : List Int) (ds : List Int) : diffI (readGo out (lastI out) ds) = diffI out ++ ds.take ((readGo out (lastI out) ds).length - out.length) ∧ out.length ≤ (readGo out (lastI out) ds).length := by
  induction ds generalizing out with
  | nil => simp [readGo]
  | cons d r ih =>
    unfold readGo
    split
    · next h =>
      have := ih (out ++ [lastI out + d])
      rw [lastI_snoc] at this
      obtain ⟨h1, h2⟩ := this
      rw [List.length_append, List.length_singleton] at h1 h2
      refine ⟨?_, by omega⟩
      rw [h1, diffI_snoc]
      have e : (readGo (out ++ [lastI out + d]) (lastI out + d) r).length - out.length = ((readGo (out ++ [lastI out + d]) (lastI out + d) r).length - (out.length + 1)) + 1 := by omega
      rw [e, List.take_succ_cons]
      have e2 : lastI out + d - lastI out = d := by omega
      rw [e2]
      simp
    · simp
theorem diff_readI (ds : List Int) : diffI (readI ds) = ds.take (readI ds).length := by
  have := (diff_readGo [] ds).1
  simpa [readI, lastI, diffI, diffK] using this
theorem flat_nil {ds : List Int} (h : (ds.flatMap fun d => bytesI (foldI d)) = []) : ds = [] := by
  cases ds with
  | nil => rfl
  | cons d r =>
    rw [List.flatMap_cons] at h
    have h2 := (List.append_eq_nil_iff.1 h).1
    have := (bytesI_len (foldI d)).1
    rw [h2] at this
    simp at this

/-- the two tests say the same -/
theorem unpack_law (bs : List Int) (hb : ∀ x ∈ bs, 0 ≤ x ∧ x ≤ 255) :
    (packI (readI (upI bs).1) == bs) = (decide ((upI bs).2 = bs.length) && decide ((readI (upI bs).1).length = (upI bs).1.length)) := by
  obtain ⟨ds', e1, _, e3, e4⟩ := upGo_spec bs.length [] 0 bs hb (Nat.zero_le _)
  have e1' : (upI bs).1 = ds' := by simpa [upI] using e1
  have e3' : (upI bs).2 ≤ bs.length := e3
  have e4' : (ds'.flatMap fun d => bytesI (foldI d)) = bs.take (upI bs).2 := by simpa [upI] using e4
  rw [e1']
  generalize (upI bs).2 = at_ at *
  have hd := diff_readI ds'
  have hle : (readI ds').length ≤ ds'.length := by
    have := (readGo_len [] 0 ds' (by simp)).2
    simpa [readI] using this
  have hp : packI (readI ds') = (ds'.take (readI ds').length).flatMap fun d => bytesI (foldI d) := by unfold packI; rw [hd]
  have hsplit : (ds'.flatMap fun d => bytesI (foldI d)) = packI (readI ds') ++ ((ds'.drop (readI ds').length).flatMap fun d => bytesI (foldI d)) := by
    rw [hp, ← List.flatMap_append, List.take_append_drop]
  rw [Bool.eq_iff_iff]
  simp only [beq_iff_eq, Bool.and_eq_true, decide_eq_true_eq]
  constructor
  · intro h
    rw [h, e4'] at hsplit
    have hlen := congrArg List.length hsplit
    rw [List.length_append, List.length_take] at hlen
    have hr : ((ds'.drop (readI ds').length).flatMap fun d => bytesI (foldI d)) = [] := List.eq_nil_of_length_eq_zero (by omega)
    have h2 := flat_nil hr
    have h3 := congrArg List.length h2
    rw [List.length_drop] at h3
    simp at h3
    exact ⟨by omega, by omega⟩
  · intro ⟨h1, h2⟩
    rw [hp, h2, List.take_length, e4', h1, List.take_length]

/-! ### one step, from the list's places -/
theorem next1 {bs : List Int} {k : Nat} {b : Int} (h : bs[k]? = some b) (h1 : b < 192) : nextI (bs.drop k) = some (b, 1) := by
  obtain ⟨hk, e⟩ := List.getElem?_eq_some_iff.1 h
  rw [List.drop_eq_getElem_cons hk, e]
  simp [nextI, h1]
theorem next2 {bs : List Int} {k : Nat} {b c : Int} (h : bs[k]? = some b) (h1 : 192 ≤ b) (h2 : b < 224) (hc : bs[k + 1]? = some c) : nextI (bs.drop k) = some (192 + (b - 192) * 256 + c, 2) := by
  obtain ⟨hk, e⟩ := List.getElem?_eq_some_iff.1 h
  obtain ⟨hk1, e1⟩ := List.getElem?_eq_some_iff.1 hc
  rw [List.drop_eq_getElem_cons hk, List.drop_eq_getElem_cons hk1, e, e1]
  simp [nextI, h2, show ¬ b < 192 by omega]
theorem next2_none {bs : List Int} {k : Nat} {b : Int} (h : bs[k]? = some b) (h1 : 192 ≤ b) (h2 : b < 224) (hc : bs.length ≤ k + 1) : nextI (bs.drop k) = none := by
  obtain ⟨hk, e⟩ := List.getElem?_eq_some_iff.1 h
  rw [List.drop_eq_getElem_cons hk, List.drop_of_length_le hc, e]
  simp [nextI, h2, show ¬ b < 192 by omega]
theorem next3 {bs : List Int} {k : Nat} {b c d : Int} (h : bs[k]? = some b) (h1 : 224 ≤ b) (hc : bs[k + 1]? = some c) (hd : bs[k + 2]? = some d) : nextI (bs.drop k) = some (8384 + (b - 224) * 65536 + c * 256 + d, 3) := by
  obtain ⟨hk, e⟩ := List.getElem?_eq_some_iff.1 h
  obtain ⟨hk1, e1⟩ := List.getElem?_eq_some_iff.1 hc
  obtain ⟨hk2, e2⟩ := List.getElem?_eq_some_iff.1 hd
  rw [List.drop_eq_getElem_cons hk, List.drop_eq_getElem_cons hk1, List.drop_eq_getElem_cons hk2, e, e1, e2]
  simp [nextI, show ¬ b < 192 by omega, show ¬ b < 224 by omega]
theorem next3_none {bs : List Int} {k : Nat} {b : Int} (h : bs[k]? = some b) (h1 : 224 ≤ b) (hc : bs.length ≤ k + 2) : nextI (bs.drop k) = none := by
  obtain ⟨hk, e⟩ := List.getElem?_eq_some_iff.1 h
  rw [List.drop_eq_getElem_cons hk, e]
  have hl : (bs.drop (k + 1)).length ≤ 1 := by rw [List.length_drop]; omega
  match bs.drop (k + 1), hl with
  | [], _ => simp [nextI, show ¬ b < 192 by omega, show ¬ b < 224 by omega]
  | [x], _ => simp [nextI, show ¬ b < 192 by omega, show ¬ b < 224 by omega]
theorem next_end {bs : List Int} {k : Nat} (h : bs.length ≤ k) : nextI (bs.drop k) = none := by
  rw [List.drop_of_length_le h]
  rfl
theorem upGo_hit {f : Nat} {out : List Int} {k : Nat} {bs : List Int} {n : Int} {j : Nat} (hf : 1 ≤ f) (h : nextI (bs.drop k) = some (n, j)) : upGo f out k bs = upGo (f - 1) (out ++ [unfI n]) (k + j) bs := by
  obtain ⟨g, rfl⟩ : ∃ g, f = g + 1 := ⟨f - 1, by omega⟩
  rw [upGo, h]
  rfl
theorem upGo_stop {f : Nat} {out : List Int} {k : Nat} {bs : List Int} (h : nextI (bs.drop k) = none) : upGo f out k bs = (out, k) := by
  cases f with
  | zero => rfl
  | succ g => rw [upGo, h]
theorem upI_fst_len (f : Nat) (out : List Int) (k : Nat) (bs : List Int) : (upGo f out k bs).1.length ≤ out.length + f := by
  induction f generalizing out k with
  | zero => simp [upGo]
  | succ f ih =>
    unfold upGo
    split
    · have := ih (out ++ [unfI ‹Int›]) (k + ‹Nat›)
      simp at this ⊢
      omega
    · simp
end Go.Proofs.Ytnigieebmjjjjaa
