/- Strings cut at a byte: plain. Nothing of the program is named. -/
import Derived.Lib.SplitLaws
import Derived.Lib.IndexBytes
import Derived.Lib.IndexLaws
namespace Go.Proofs.YtdpmpdhhjmbbcaaGreatDoor

/-- the parts of a text between bytes b -/
def splitL (b : UInt8) : List UInt8 → List (List UInt8)
  | [] => [[]]
  | c :: l => if c = b then [] :: splitL b l else (match splitL b l with | [] => [[c]] | h :: t => (c :: h) :: t)
theorem splitL_ne (b : UInt8) (l : List UInt8) : splitL b l ≠ [] := by
  cases l with
  | nil => simp [splitL]
  | cons c l =>
    unfold splitL
    split
    · simp
    · split <;> simp
theorem splitL_hit {b : UInt8} (p r : List UInt8) (h : b ∉ p) : splitL b (p ++ b :: r) = p :: splitL b r := by
  induction p with
  | nil => simp [splitL]
  | cons c p ih =>
    have hc : ¬ c = b := fun e => h (by rw [e]; exact List.mem_cons_self ..)
    rw [List.cons_append, splitL, if_neg hc, ih (fun e => h (List.mem_cons_of_mem _ e))]
theorem splitL_none {b : UInt8} (l : List UInt8) (h : b ∉ l) : splitL b l = [l] := by
  induction l with
  | nil => simp [splitL]
  | cons c p ih =>
    have hc : ¬ c = b := fun e => h (by rw [e]; exact List.mem_cons_self ..)
    rw [splitL, if_neg hc, ih (fun e => h (List.mem_cons_of_mem _ e))]
/-- a text has the byte, or it hasn't -/
theorem byte_cases (b : UInt8) (l : List UInt8) : b ∉ l ∨ ∃ p r, l = p ++ b :: r ∧ b ∉ p := by
  induction l with
  | nil => exact .inl (by simp)
  | cons c l ih =>
    by_cases hc : c = b
    · exact .inr ⟨[], l, by rw [hc]; rfl, by simp⟩
    · rcases ih with h | ⟨p, r, rfl, h⟩
      · exact .inl fun e => (List.mem_cons.1 e).elim (fun e => hc e.symm) h
      · exact .inr ⟨c :: p, r, rfl, fun e => (List.mem_cons.1 e).elim (fun e => hc e.symm) h⟩
theorem indexByte_no {b : UInt8} {l : List UInt8} (h : b ∉ l) : Lib.indexByte l b = -1 := by
  have h1 := Lib.indexByte_ge l b
  rcases Int.lt_or_eq_of_le h1 with h2 | h2
  · obtain ⟨o, ho⟩ : ∃ o : Nat, Lib.indexByte l b = o := ⟨(Lib.indexByte l b).toNat, by omega⟩
    exact absurd (List.mem_of_getElem? (Lib.indexByte_some ho).1) h
  · exact h2.symm
theorem indexByte_at {b : UInt8} {p r : List UInt8} (h : b ∉ p) : Lib.indexByte (p ++ b :: r) b = p.length := by
  have h1 := Lib.indexByte_ge (p ++ b :: r) b
  rcases Int.lt_or_eq_of_le h1 with h2 | h2
  · obtain ⟨o, ho⟩ : ∃ o : Nat, Lib.indexByte (p ++ b :: r) b = o := ⟨(Lib.indexByte (p ++ b :: r) b).toNat, by omega⟩
    obtain ⟨h3, h4⟩ := Lib.indexByte_some ho
    rcases Nat.lt_trichotomy o p.length with h5 | h5 | h5
    · rw [List.getElem?_append_left h5] at h3
      exact absurd (List.mem_of_getElem? h3) h
    · rw [ho, h5]
    · exact absurd (by rw [List.getElem?_append_right (Nat.le_refl _), Nat.sub_self]; rfl) (h4 p.length h5)
  · exact absurd (by rw [List.getElem?_append_right (Nat.le_refl _), Nat.sub_self]; rfl) (Lib.indexByte_none h2.symm p.length)
/-- the first part -/
theorem cut_first (b : UInt8) (l : List UInt8) : (Lib.cut l [b]).1 = (splitL b l).headD [] := by
  unfold Lib.cut
  rw [Lib.index_one]
  rcases byte_cases b l with h | ⟨p, r, rfl, h⟩
  · rw [indexByte_no h, if_neg (by omega), splitL_none l h]; rfl
  · rw [indexByte_at h, if_pos (by omega), splitL_hit p r h]
    simp
/-- all parts: strings.Split's way -/
theorem splitK_all (b : UInt8) : ∀ (n : Nat) (l : List UInt8), l.length ≤ n → Lib.splitK [b] 0 (l.count b) l = splitL b l
  | n, l, hn => by
    rcases byte_cases b l with h | ⟨p, r, rfl, h⟩
    · rw [List.count_eq_zero_of_not_mem h, splitL_none l h]; rfl
    · have e : (p ++ b :: r).count b = r.count b + 1 := by rw [List.count_append, List.count_eq_zero_of_not_mem h, List.count_cons_self]; omega
      rw [e, Lib.splitK, Lib.index_one, indexByte_at h, splitL_hit p r h, if_neg (by simp)]
      have e2 : ((p.length : Int)).toNat = p.length := by omega
      rw [e2, Nat.add_zero, List.take_left']
      · congr 1
        have e3 : (p ++ b :: r).drop (p.length + [b].length) = r := by
          rw [show p ++ b :: r = (p ++ [b]) ++ r by simp]
          exact List.drop_left' (by simp)
        rw [e3]
        match n with
        | 0 => simp at hn
        | n + 1 => exact splitK_all b n r (by simp at hn; omega)
      · rfl
theorem split_all (b : UInt8) (l : List UInt8) : Lib.split l [b] = splitL b l := by
  unfold Lib.split
  rw [Lib.count_one]
  exact splitK_all b _ l (Nat.le_refl _)
end Go.Proofs.YtdpmpdhhjmbbcaaGreatDoor
