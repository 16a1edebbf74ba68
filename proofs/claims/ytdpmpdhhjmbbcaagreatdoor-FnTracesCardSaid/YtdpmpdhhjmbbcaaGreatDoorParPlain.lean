/- A trace read from its text: plain. Nothing of the program is walked. -/
import Derived.Test.YtdpmpdhhjmbbcaaGreatDoorTrText
import Derived.Test.YtdpmpdhhjmbbcaaGreatDoorSplit
import Derived.Test.YtdpmpdhhjmbbcaaGreatDoorReadPlain
import Derived.Lib.CutLaws
namespace Go.Proofs.YtdpmpdhhjmbbcaaGreatDoor

/-! ### the bytes of a number's text -/
theorem digit_mem (u : Nat) : ∀ b ∈ Lib.decDigits u, 48 ≤ b.toNat ∧ b.toNat ≤ 57 := by
  induction u using Nat.strongRecOn with
  | _ u ih =>
    intro b hb
    by_cases h : u < 10
    · rw [Lib.decDigits_one h] at hb
      rw [List.mem_singleton.1 hb, digit_u8 h]
      omega
    · rw [Lib.decDigits, dif_neg h] at hb
      rcases List.mem_append.1 hb with hb | hb
      · exact ih (u / 10) (by omega) b hb
      · have h10 := Nat.mod_lt u (show 0 < 10 by omega)
        rw [List.mem_singleton.1 hb, digit_u8 h10]
        omega
theorem itoa_mem (n : Int) : ∀ b ∈ Lib.itoa n, b = 45 ∨ (48 ≤ b.toNat ∧ b.toNat ≤ 57) := by
  intro b hb
  by_cases h : n < 0
  · obtain ⟨u, rfl⟩ : ∃ u : Nat, n = -(u : Int) := ⟨n.natAbs, by omega⟩
    rw [Lib.itoa_neg u (by omega)] at hb
    rcases List.mem_cons.1 hb with hb | hb
    · exact .inl hb
    · exact .inr (digit_mem u b hb)
  · obtain ⟨u, rfl⟩ : ∃ u : Nat, n = (u : Int) := ⟨n.toNat, by omega⟩
    rw [Lib.itoa_nonneg] at hb
    exact .inr (digit_mem u b hb)
theorem itoa_no (n : Int) (b : UInt8) (h : b ≠ 45) (h2 : b.toNat < 48 ∨ 57 < b.toNat) : b ∉ Lib.itoa n := fun hb => (itoa_mem n b hb).elim h fun h3 => by omega
theorem no32 (n : Int) : (32 : UInt8) ∉ Lib.itoa n := itoa_no n 32 (by decide) (by decide)
theorem no58 (n : Int) : (58 : UInt8) ∉ Lib.itoa n := itoa_no n 58 (by decide) (by decide)
theorem no64 (n : Int) : (64 : UInt8) ∉ Lib.itoa n := itoa_no n 64 (by decide) (by decide)
theorem digits_le (k : Nat) : ∀ u : Nat, u < 10 ^ (k + 1) → (Lib.decDigits u).length ≤ k + 1 := by
  induction k with
  | zero => intro u hu; rw [Lib.decDigits_one (by omega)]; simp
  | succ k ih =>
    intro u hu
    by_cases h : u < 10
    · rw [Lib.decDigits_one h]; simp
    · rw [Lib.decDigits, dif_neg h, List.length_append]
      have := ih (u / 10) (by rw [Nat.pow_succ] at hu; omega)
      simp
      omega
theorem numB_two {n : Int} (h0 : 0 ≤ n) (h1 : n ≤ 99) : (numB n).size ≤ 2 := by
  obtain ⟨u, rfl⟩ : ∃ u : Nat, n = (u : Int) := ⟨n.toNat, by omega⟩
  rw [Lib.size_eq, numB_data, Lib.itoa_nonneg]
  exact digits_le 1 u (by omega)
theorem numB_tick {n : Int} (h0 : 0 ≤ n) (h1 : n ≤ 1000000) : (numB n).size ≤ 7 := by
  obtain ⟨u, rfl⟩ : ∃ u : Nat, n = (u : Int) := ⟨n.toNat, by omega⟩
  rw [Lib.size_eq, numB_data, Lib.itoa_nonneg]
  exact digits_le 6 u (by omega)

/-! ### the number that strconv.Atoi says, zero where it says none -/
def atZ (s : ByteArray) : Int := match Lib.atoiAll s.data.toList with
  | .ok n => n
  | _ => 0
theorem atZ_num {n : Int} (h : (numB n).size ≤ 18) : atZ (numB n) = n := by
  rw [Lib.size_eq] at h
  unfold atZ
  rw [Lib.atoiAll_short _ h, numB_data, atoi_itoa]
  rfl
/-- the number of at most 7 digits, -1 where there is none -/
def rd2 (s : ByteArray) : Int := if 1 ≤ s.size ∧ s.size ≤ 7 then (match Lib.decFrom 0 s.data.toList with | some n => (n : Int) | none => -1) else -1
theorem rd2_num {n : Int} (h0 : 0 ≤ n) (h1 : n ≤ 1000000) : rd2 (numB n) = n := by
  obtain ⟨u, rfl⟩ : ∃ u : Nat, n = (u : Int) := ⟨n.toNat, by omega⟩
  have h7 := numB_tick h0 h1
  have h2 : 1 ≤ (numB (u : Int)).size := by rw [Lib.size_eq, numB_data, Lib.itoa_nonneg]; exact digits_pos u
  unfold rd2
  rw [if_pos ⟨h2, h7⟩, numB_data, Lib.itoa_nonneg, decFrom_digits]

/-! ### a trace's text, cut -/
theorem cut_at {b : UInt8} {p r : List UInt8} (h : b ∉ p) : Lib.cut (p ++ b :: r) [b] = (p, r, true) := by
  unfold Lib.cut
  rw [Lib.index_one, indexByte_at h, if_pos (by omega)]
  have e : ((p.length : Int)).toNat = p.length := by omega
  rw [e, List.take_left' rfl]
  have e3 : (p ++ b :: r).drop (p.length + [b].length) = r := by
    rw [show p ++ b :: r = (p ++ [b]) ++ r by simp]
    exact List.drop_left' (by simp)
  rw [e3]
/-- the samples' part -/
def rowL (xs : List Int) : List UInt8 := xs.flatMap fun x => 32 :: Lib.itoa x
theorem rowL_snoc (xs : List Int) (x : Int) : rowL (xs ++ [x]) = rowL xs ++ 32 :: Lib.itoa x := by simp [rowL]
theorem txtN_data (st sa : Int) (xs : List Int) : ∀ k, k ≤ xs.length → (txtN st sa xs k).data.toList = Lib.itoa st ++ 64 :: (Lib.itoa sa ++ 58 :: rowL (xs.take k))
  | 0, _ => by
    rw [txtN]
    simp [numB_data, rowL]
  | k + 1, hk => by
    have ih := txtN_data st sa xs k (by omega)
    have hx : xs.getD k 0 = xs[k]'(by omega) := by simp [List.getElem?_eq_getElem (show k < xs.length by omega)]
    rw [txtN, ByteArray.data_append, Array.toList_append, ih, hx, List.take_succ_eq_append_getElem (by omega), rowL_snoc]
    simp [numB_data]
theorem txtN_all (st sa : Int) (xs : List Int) : (txtN st sa xs xs.length).data.toList = Lib.itoa st ++ 64 :: (Lib.itoa sa ++ 58 :: rowL xs) := by
  rw [txtN_data st sa xs _ (Nat.le_refl _), List.take_length]
theorem split_row (xs : List Int) : ∀ p : List UInt8, (32 : UInt8) ∉ p → splitL 32 (p ++ rowL xs) = p :: xs.map Lib.itoa := by
  induction xs with
  | nil => intro p hp; simp only [rowL, List.flatMap_nil, List.append_nil, List.map_nil]; exact splitL_none p hp
  | cons x l ih =>
    intro p hp
    have e : p ++ rowL (x :: l) = p ++ 32 :: (Lib.itoa x ++ rowL l) := by simp [rowL]
    rw [e, splitL_hit p _ hp, ih _ (no32 x), List.map_cons]
theorem txt_size {st sa : Int} {xs : List Int} (hg : goodB st sa xs = true) : ∀ k, k ≤ xs.length → (txtN st sa xs k).size ≤ 11 + 8 * k
  | 0, _ => by
    obtain ⟨h1, h2, _⟩ := goodB_parts hg
    have a1 := numB_two (n := st) (by omega) (by omega)
    have a2 := numB_tick (n := sa) (by omega) (by omega)
    rw [txtN, size_app, size_app, size_app]
    have e1 : (⟨#[64]⟩ : ByteArray).size = 1 := rfl
    have e2 : (⟨#[58]⟩ : ByteArray).size = 1 := rfl
    omega
  | k + 1, hk => by
    have ih := txt_size hg k (by omega)
    obtain ⟨_, _, h3, _⟩ := goodB_parts hg
    have hx := smpB_all h3 (xs.getD k 0) (by rw [List.getD_eq_getElem?_getD, List.getElem?_eq_getElem (by omega)]; exact List.getElem_mem _)
    have a1 := numB_seven (n := xs.getD k 0) (by omega) (by omega)
    rw [txtN, size_app, size_app]
    have e1 : (⟨#[32]⟩ : ByteArray).size = 1 := rfl
    omega
theorem txt_220 {st sa : Int} {xs : List Int} (hg : goodB st sa xs = true) : (txtN st sa xs xs.length).size ≤ 220 := by
  have h := txt_size hg xs.length (Nat.le_refl _)
  have := smpB_len (goodB_parts hg).2.2.1
  omega

/-! ### the program's way -/
/-- what the program reads out of a text -/
def ipR (s : ByteArray) : Int × Int × List Int :=
  (atZ ⟨(Lib.cut (Lib.cut s.data.toList [58]).1 [64]).1.toArray⟩, atZ ⟨(Lib.cut (Lib.cut s.data.toList [58]).1 [64]).2.1.toArray⟩,
    if s.size ≤ 400 then ((splitA 32 ⟨(Lib.cut s.data.toList [58]).2.1.toArray⟩).tail).map atZ else [])
/-- the trace of a text, whether there is one -/
def prR (s : ByteArray) : Int × Int × List Int × Bool :=
  if (goodB (ipR s).1 (ipR s).2.1 (ipR s).2.2 && decide (txtN (ipR s).1 (ipR s).2.1 (ipR s).2.2 (ipR s).2.2.length = s)) = true then ((ipR s).1, (ipR s).2.1, (ipR s).2.2, true) else (0, 0, [], false)
theorem numB_mk (n : Int) : (⟨(Lib.itoa n).toArray⟩ : ByteArray) = numB n := rfl
theorem map_itoa (xs : List Int) : (xs.map Lib.itoa).map (fun l => (⟨l.toArray⟩ : ByteArray)) = xs.map numB := by
  rw [List.map_map]; rfl
theorem map_atZ {xs : List Int} (h : ∀ x ∈ xs, -100000 ≤ x ∧ x ≤ 100000) : (xs.map numB).map atZ = xs := by
  rw [List.map_map]
  conv => rhs; rw [← List.map_id xs]
  refine List.map_congr_left fun x hx => ?_
  have h2 := h x hx
  have := numB_seven (n := x) (by omega) (by omega)
  exact atZ_num (by omega)
theorem ipR_text {st sa : Int} {xs : List Int} (hg : goodB st sa xs = true) : ipR (txtN st sa xs xs.length) = (st, sa, xs) := by
  obtain ⟨h1, h2, h3, _⟩ := goodB_parts hg
  have a1 := numB_two (n := st) (by omega) (by omega)
  have a2 := numB_tick (n := sa) (by omega) (by omega)
  have hs := txt_220 hg
  have e0 : (58 : UInt8) ∉ Lib.itoa st ++ 64 :: Lib.itoa sa := by
    intro h
    rcases List.mem_append.1 h with h | h
    · exact no58 st h
    · rcases List.mem_cons.1 h with h | h
      · exact absurd h (by decide)
      · exact no58 sa h
  have e1 : (txtN st sa xs xs.length).data.toList = (Lib.itoa st ++ 64 :: Lib.itoa sa) ++ 58 :: rowL xs := by rw [txtN_all]; simp
  have e2 : Lib.cut (txtN st sa xs xs.length).data.toList [58] = (Lib.itoa st ++ 64 :: Lib.itoa sa, rowL xs, true) := by rw [e1]; exact cut_at e0
  unfold ipR
  rw [e2, if_pos (by omega)]
  simp only
  rw [cut_at (no64 st)]
  simp only
  rw [numB_mk, numB_mk, atZ_num (by omega), atZ_num (by omega)]
  have e3 : splitA 32 ⟨(rowL xs).toArray⟩ = ByteArray.empty :: xs.map numB := by
    unfold splitA
    have := split_row xs [] (by simp)
    rw [List.nil_append] at this
    rw [this, List.map_cons, map_itoa]
    rfl
  rw [e3, List.tail_cons, map_atZ (smpB_all h3)]
theorem prR_hit {st sa : Int} {xs : List Int} {s : ByteArray} (hg : goodB st sa xs = true) (h : txtN st sa xs xs.length = s) : prR s = (st, sa, xs, true) := by
  subst h
  unfold prR
  rw [ipR_text hg]
  simp only
  rw [if_pos (by rw [hg]; simp)]
theorem prR_miss {s : ByteArray} (h : ∀ st sa xs, goodB st sa xs = true → txtN st sa xs xs.length ≠ s) : prR s = (0, 0, [], false) := by
  unfold prR
  rw [if_neg]
  rw [Bool.and_eq_true, decide_eq_true_iff]
  rintro ⟨hg, e⟩
  exact h _ _ _ hg e
theorem prR_big {s : ByteArray} (h : 220 < s.size) : prR s = (0, 0, [], false) := prR_miss fun st sa xs hg e => by
  have := txt_220 hg
  rw [e] at this
  omega

/-! ### the reference's way -/
theorem spec_words {st sa : Int} {xs : List Int} : splitA 32 (txtN st sa xs xs.length) = (txtN st sa xs 0) :: xs.map numB := by
  have h0 : (32 : UInt8) ∉ Lib.itoa st ++ 64 :: (Lib.itoa sa ++ [58]) := by
    intro h
    rcases List.mem_append.1 h with h | h
    · exact no32 st h
    · rcases List.mem_cons.1 h with h | h
      · exact absurd h (by decide)
      · rcases List.mem_append.1 h with h | h
        · exact no32 sa h
        · exact absurd (List.mem_singleton.1 h) (by decide)
  have e : (txtN st sa xs xs.length).data.toList = (Lib.itoa st ++ 64 :: (Lib.itoa sa ++ [58])) ++ rowL xs := by rw [txtN_all]; simp
  unfold splitA
  rw [e, split_row xs _ h0, List.map_cons, map_itoa]
  congr 1
  apply bytes_ext
  rw [txtN_data st sa xs 0 (Nat.zero_le _)]
  simp [rowL]
theorem spec_head (st sa : Int) (xs : List Int) : splitA 64 (txtN st sa xs 0) = [numB st, numB sa ++ ⟨#[58]⟩] := by
  have h2 : (64 : UInt8) ∉ Lib.itoa sa ++ [58] := by
    intro h
    rcases List.mem_append.1 h with h | h
    · exact no64 sa h
    · exact absurd (List.mem_singleton.1 h) (by decide)
  unfold splitA
  rw [txtN_data st sa xs 0 (Nat.zero_le _)]
  have e : Lib.itoa sa ++ 58 :: rowL (xs.take 0) = Lib.itoa sa ++ [58] := by simp [rowL]
  rw [e, splitL_hit _ _ (no64 st), splitL_none _ h2]
  simp only [List.map_cons, List.map_nil, numB_mk]
  congr 2
theorem spec_start (sa : Int) : (numB sa ++ ⟨#[58]⟩).extract 0 ((numB sa ++ ⟨#[58]⟩).size - 1) = numB sa := by
  have e1 : (⟨#[58]⟩ : ByteArray).size = 1 := rfl
  apply bytes_ext
  rw [Lib.extract_data, ByteArray.data_append, Array.toList_append, List.drop_zero, size_app, e1, Nat.add_sub_cancel, Nat.sub_zero, Lib.size_eq]
  exact List.take_left' rfl
theorem map_rd {xs : List Int} (h : ∀ x ∈ xs, -100000 ≤ x ∧ x ≤ 100000) : (xs.map numB).map (fun s => (rdR s).1) = xs := by
  rw [List.map_map]
  conv => rhs; rw [← List.map_id xs]
  refine List.map_congr_left fun x hx => ?_
  have h2 := h x hx
  show (rdR (numB x)).1 = x
  rw [rdR_ok (by omega) (by omega) rfl]
/-- what the reference reads out of a text that is one of a trace -/
theorem spec_text {st sa : Int} {xs : List Int} {s h0 h1 : ByteArray} {words : List ByteArray} (hg : goodB st sa xs = true) (he : txtN st sa xs xs.length = s) (hw : splitA 32 s = words) :
    (words.headD ByteArray.empty = txtN st sa xs 0) ∧ splitA 64 (words.headD ByteArray.empty) = [numB st, numB sa ++ ⟨#[58]⟩] ∧ (rdR (numB st)).1 = st ∧ rd2 ((numB sa ++ ⟨#[58]⟩).extract 0 ((numB sa ++ ⟨#[58]⟩).size - 1)) = sa ∧ (words.tail.map fun s => (rdR s).1) = xs := by
  obtain ⟨h1, h2, h3, _⟩ := goodB_parts hg
  subst he
  rw [spec_words] at hw
  subst hw
  refine ⟨rfl, spec_head st sa xs, ?_, ?_, ?_⟩
  · rw [rdR_ok (by omega) (by omega) rfl]
  · rw [spec_start, rd2_num (by omega) (by omega)]
  · exact map_rd (smpB_all h3)
end Go.Proofs.YtdpmpdhhjmbbcaaGreatDoor
