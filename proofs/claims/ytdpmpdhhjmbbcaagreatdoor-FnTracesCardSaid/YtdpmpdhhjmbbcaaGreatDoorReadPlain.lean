/- Numbers read from their texts: plain. Nothing of the program is named. -/
import Derived.Test.YtdpmpdhhjmbbcaaGreatDoorHas
import Derived.Lib.AtoiTie
import Derived.Lib.ItoaLen
import Derived.Lib.ItoaMem
namespace Go.Proofs.YtdpmpdhhjmbbcaaGreatDoor

/-- the text of a number -/
def numB (n : Int) : ByteArray := ⟨(Lib.itoa n).toArray⟩
theorem numB_data (n : Int) : (numB n).data.toList = Lib.itoa n := by simp [numB]
theorem digit_u8 {d : Nat} (h : d < 10) : (UInt8.ofNat (48 + d)).toNat = 48 + d := by
  rw [UInt8.toNat_ofNat']
  exact Nat.mod_eq_of_lt (by omega)
theorem digitVal_of {d : Nat} (h : d < 10) : Lib.digitVal (UInt8.ofNat (48 + d)) = some d := by
  unfold Lib.digitVal
  rw [digit_u8 h, if_pos (by omega), Nat.add_sub_cancel_left]
theorem decFrom_snoc (l : List UInt8) (b : UInt8) : ∀ acc, Lib.decFrom acc (l ++ [b]) = (Lib.decFrom acc l).bind fun n => (Lib.digitVal b).map fun d => n * 10 + d := by
  induction l with
  | nil =>
    intro acc
    simp only [List.nil_append, Lib.decFrom, Option.bind_some]
    cases Lib.digitVal b <;> rfl
  | cons c l ih =>
    intro acc
    simp only [List.cons_append, Lib.decFrom]
    cases Lib.digitVal c with
    | none => rfl
    | some d => exact ih _
theorem decFrom_digits (u : Nat) : Lib.decFrom 0 (Lib.decDigits u) = some u := by
  induction u using Nat.strongRecOn with
  | _ u ih =>
    by_cases h : u < 10
    · rw [Lib.decDigits_one h]
      unfold Lib.decFrom
      rw [digitVal_of h]
      simp [Lib.decFrom]
    · rw [Lib.decDigits, dif_neg h, decFrom_snoc, ih (u / 10) (by omega), digitVal_of (Nat.mod_lt _ (by omega))]
      simp
      omega
theorem digits_pos (u : Nat) : 0 < (Lib.decDigits u).length := by rw [Lib.decDigits_length]; exact Lib.nDigits_pos u
theorem digits_six {u : Nat} (h : u ≤ 999999) : (Lib.decDigits u).length ≤ 6 := by
  rw [Lib.decDigits_length]
  have h1 := Lib.nDigits_pos u
  rcases Nat.lt_or_ge 6 (Lib.nDigits u) with h2 | h2
  · exfalso
    have h3 : ∀ (k u : Nat), k + 1 ≤ Lib.nDigits u → 10 ^ k ≤ u ∨ k = 0 := by
      intro k
      induction k with
      | zero => intro u _; exact .inr rfl
      | succ k ih =>
        intro u hu
        by_cases h : u < 10
        · rw [Lib.nDigits_small h] at hu; omega
        · rw [Lib.nDigits_big h] at hu
          rcases ih (u / 10) (by omega) with h4 | h4
          · refine .inl ?_
            rw [Nat.pow_succ]
            omega
          · subst h4
            refine .inl ?_
            omega
    rcases h3 6 u (by omega) with h4 | h4
    · omega
    · omega
  · exact h2
theorem decNat_digits (u : Nat) : Lib.decNat (Lib.decDigits u) = some u := by
  unfold Lib.decNat
  rw [if_neg (by rw [List.isEmpty_iff]; intro e; have := digits_pos u; rw [e] at this; cases this)]
  exact decFrom_digits u
/-- the first sign of a number that isn't negative is a digit -/
theorem digits_head (u : Nat) : ∃ d r, d < 10 ∧ Lib.decDigits u = UInt8.ofNat (48 + d) :: r := by
  induction u using Nat.strongRecOn with
  | _ u ih =>
    by_cases h : u < 10
    · exact ⟨u, [], h, Lib.decDigits_one h⟩
    · obtain ⟨d, r, hd, e⟩ := ih (u / 10) (by omega)
      refine ⟨d, r ++ [UInt8.ofNat (48 + u % 10)], hd, ?_⟩
      rw [Lib.decDigits, dif_neg h, e]
      rfl
theorem atoi_itoa (n : Int) : Lib.atoi (Lib.itoa n) = some n := by
  by_cases h : n < 0
  · obtain ⟨u, rfl⟩ : ∃ u : Nat, n = -(u : Int) := ⟨n.natAbs, by omega⟩
    rw [Lib.itoa_neg u (by omega)]
    show (if ((45 : UInt8) == 45) = true then (Lib.decNat (Lib.decDigits u)).map (fun m : Nat => -(m : Int)) else if ((45 : UInt8) == 43) = true then (Lib.decNat (Lib.decDigits u)).map (fun m : Nat => (m : Int)) else (Lib.decNat (45 :: Lib.decDigits u)).map fun m : Nat => (m : Int)) = some (-(u : Int))
    rw [if_pos (by decide : ((45 : UInt8) == 45) = true), decNat_digits]
    rfl
  · obtain ⟨u, rfl⟩ : ∃ u : Nat, n = (u : Int) := ⟨n.toNat, by omega⟩
    rw [Lib.itoa_nonneg]
    have h1 := decNat_digits u
    obtain ⟨d, r, hd, e⟩ := digits_head u
    rw [e] at h1 ⊢
    have h2 := digit_u8 hd
    show (if (UInt8.ofNat (48 + d) == 45) = true then (Lib.decNat r).map (fun m : Nat => -(m : Int)) else if (UInt8.ofNat (48 + d) == 43) = true then (Lib.decNat r).map (fun m : Nat => (m : Int)) else (Lib.decNat (UInt8.ofNat (48 + d) :: r)).map fun m : Nat => (m : Int)) = some (u : Int)
    rw [if_neg (by rw [beq_iff_eq]; intro e; rw [e] at h2; have : (45 : UInt8).toNat = 45 := rfl; omega), if_neg (by rw [beq_iff_eq]; intro e; rw [e] at h2; have : (43 : UInt8).toNat = 43 := rfl; omega), h1]
    rfl
theorem numB_inj {m n : Int} (h : numB m = numB n) : m = n := by
  have e : Lib.itoa m = Lib.itoa n := by rw [← numB_data, ← numB_data, h]
  have h1 := atoi_itoa m
  rw [e, atoi_itoa] at h1
  exact (Option.some.inj h1).symm
/-- is a text one with a sign? -/
def negB (s : ByteArray) : Bool := decide (1 < s.size) && (s.data.toList.head? == some 45)
/-- the text behind the sign -/
def magB (s : ByteArray) : ByteArray := if negB s = true then s.extract 1 s.size else s
/-- a text's number, whether it has one -/
def rdR (s : ByteArray) : Int × Bool :=
  match Lib.atoi s.data.toList with
  | some n => if (decide (s.size ≤ 7) && (decide (-999999 ≤ n) && (decide (n ≤ 999999) && decide (numB n = s)))) = true then (n, true) else (0, false)
  | none => (0, false)
theorem numB_seven {n : Int} (h0 : -999999 ≤ n) (h1 : n ≤ 999999) : (numB n).size ≤ 7 := by
  rw [Lib.size_eq, numB_data]
  by_cases h : n < 0
  · obtain ⟨u, rfl⟩ : ∃ u : Nat, n = -(u : Int) := ⟨n.natAbs, by omega⟩
    rw [Lib.itoa_neg u (by omega), List.length_cons]
    have := digits_six (u := u) (by omega)
    omega
  · obtain ⟨u, rfl⟩ : ∃ u : Nat, n = (u : Int) := ⟨n.toNat, by omega⟩
    rw [Lib.itoa_nonneg]
    have := digits_six (u := u) (by omega)
    omega
theorem rdR_ok {s : ByteArray} {n : Int} (h0 : -999999 ≤ n) (h1 : n ≤ 999999) (h : numB n = s) : rdR s = (n, true) := by
  subst h
  unfold rdR
  rw [numB_data, atoi_itoa]
  simp only
  rw [if_pos]
  simp [h0, h1, numB_seven h0 h1]
theorem rdR_no {s : ByteArray} (h : ∀ n : Int, -999999 ≤ n → n ≤ 999999 → numB n ≠ s) : rdR s = (0, false) := by
  unfold rdR
  split
  · rename_i n _
    rw [if_neg]
    simp only [Bool.and_eq_true, decide_eq_true_iff, not_and]
    exact fun _ h0 h1 => h n h0 h1
  · rfl
/-- what the text of a small number is like -/
theorem num_parts {s : ByteArray} {n : Int} (h0 : -999999 ≤ n) (h1 : n ≤ 999999) (h : numB n = s) : negB s = decide (n < 0) ∧ 1 ≤ (magB s).size ∧ (magB s).size ≤ 6 ∧ Lib.decFrom 0 (magB s).data.toList = some n.natAbs := by
  by_cases hn : n < 0
  · obtain ⟨u, rfl⟩ : ∃ u : Nat, n = -(u : Int) := ⟨n.natAbs, by omega⟩
    have hl : s.data.toList = 45 :: Lib.decDigits u := by rw [← h, numB_data, Lib.itoa_neg u (by omega)]
    have hp := digits_pos u
    have h6 := digits_six (u := u) (by omega)
    have hg : negB s = true := by
      unfold negB
      rw [Lib.size_eq, hl, decide_eq_true (by simp; omega)]
      rfl
    have hm : (magB s).data.toList = Lib.decDigits u := by
      unfold magB
      rw [if_pos hg, Lib.extract_data, hl, List.take_of_length_le (by rw [Lib.size_eq, hl]; simp)]
      rfl
    have e : (-(u : Int)).natAbs = u := by omega
    rw [Lib.size_eq, hm, e]
    exact ⟨by rw [hg]; exact (decide_eq_true hn).symm, hp, h6, decFrom_digits u⟩
  · obtain ⟨u, rfl⟩ : ∃ u : Nat, n = (u : Int) := ⟨n.toNat, by omega⟩
    have hl : s.data.toList = Lib.decDigits u := by rw [← h, numB_data, Lib.itoa_nonneg]
    have hp := digits_pos u
    have h6 := digits_six (u := u) (by omega)
    have hg : negB s = false := by
      unfold negB
      obtain ⟨d, r, hd, e⟩ := digits_head u
      rw [hl, e]
      have h2 := digit_u8 hd
      rw [Bool.and_eq_false_iff]
      refine .inr ?_
      rw [beq_eq_false_iff_ne]
      intro e2
      have e3 : UInt8.ofNat (48 + d) = 45 := Option.some.inj e2
      rw [e3] at h2
      have : (45 : UInt8).toNat = 45 := rfl
      omega
    have hm : magB s = s := by unfold magB; rw [if_neg (by rw [hg]; decide)]
    have e : ((u : Int)).natAbs = u := by omega
    rw [Lib.size_eq, hm, hl, e]
    exact ⟨by rw [hg]; exact (decide_eq_false hn).symm, hp, h6, decFrom_digits u⟩
/-- digits, but for the sign, are that number -/
theorem decFrom_six {l : List UInt8} {u : Nat} (h : Lib.decFrom 0 l = some u) (hl : l.length ≤ 6) : u ≤ 999999 := by
  have h1 := Lib.decFrom_lt l 0 u h
  have h2 : 10 ^ l.length ≤ 10 ^ 6 := Nat.pow_le_pow_right (by omega) hl
  omega
end Go.Proofs.YtdpmpdhhjmbbcaaGreatDoor
