/- Chapter 1, plain: a text with its checksum, one byte changed, is no text with its checksum; a number's text read back. -/
import Derived.Test.YtajngpnpcefhdaaDoorProg
import Derived.Test.YtajngpnpcefhdaaDoorVerify
import Derived.Test.YtajngpnpcefhdaaDoorParse
namespace Go.Proofs.YtajngpnpcefhdaaDoor
open Go.RowKit

theorem sum_inj : ∀ (l : List UInt8) (h h' : Int), 0 ≤ h ∧ h < 999979 → 0 ≤ h' ∧ h' < 999979 → sumB h l = sumB h' l → h = h'
  | [], h, h', _, _, e => e
  | c :: l, h, h', b1, b2, e => by
    have ih := sum_inj l ((41 * h + c.toNat + 1) % 999979) ((41 * h' + c.toNat + 1) % 999979) (by omega) (by omega) e
    omega
theorem sum_changed : ∀ (l : List UInt8) (k : Nat) (a c : UInt8) (h : Int), 0 ≤ h ∧ h < 999979 → l[k]? = some a → c ≠ a → sumB h (l.set k c) ≠ sumB h l
  | [], k, a, c, h, _, hk, _ => by simp at hk
  | b :: l, 0, a, c, h, hb, hk, hne => fun e => by
    obtain rfl : b = a := by simpa using hk
    have ih := sum_inj l ((41 * h + c.toNat + 1) % 999979) ((41 * h + b.toNat + 1) % 999979) (by omega) (by omega) e
    have h1 : c.toNat < 256 := c.toNat_lt
    have h2 : b.toNat < 256 := b.toNat_lt
    have h3 : c.toNat ≠ b.toNat := fun e9 => hne (UInt8.toNat_inj.1 e9)
    omega
  | b :: l, k + 1, a, c, h, hb, hk, hne => fun e =>
    sum_changed l k a c ((41 * h + b.toNat + 1) % 999979) (by omega) (by simpa using hk) hne e
theorem at_mark (T D : List UInt8) : (T ++ 35 :: D)[T.length]? = some 35 := by simp
theorem ahead_mark {T D : List UInt8} {i : Nat} {b : UInt8} (hi : i < T.length) (h : (T ++ 35 :: D)[i]? = some b) : b ∈ T := by
  rw [List.getElem?_append_left hi] at h
  exact List.mem_of_getElem? h
theorem behind_mark {T D : List UInt8} {j : Nat} {b : UInt8} (hj : T.length < j) (h : (T ++ 35 :: D)[j]? = some b) : b ∈ D := by
  rw [List.getElem?_append_right (by omega)] at h
  obtain ⟨m, hm⟩ : ∃ m, j - T.length = m + 1 := ⟨j - T.length - 1, by omega⟩
  rw [hm, List.getElem?_cons_succ] at h
  exact List.mem_of_getElem? h
theorem one_changed {X T DX DT : List UInt8} {k : Nat} {a c : UInt8} (hX : 35 ∉ X) (hT : 35 ∉ T) (hDX : 35 ∉ DX) (hDT : 35 ∉ DT) (hk : (X ++ 35 :: DX)[k]? = some a) (hne : c ≠ a) (h : T ++ 35 :: DT = (X ++ 35 :: DX).set k c) :
    (X[k]? = some a ∧ T = X.set k c ∧ DT = DX) ∨ (T = X ∧ DT ≠ DX) := by
  have hkl := (List.getElem?_eq_some_iff.1 hk).1
  have hg : ∀ i : Nat, (T ++ 35 :: DT)[i]? = ((X ++ 35 :: DX).set k c)[i]? := fun i => by rw [h]
  have ho : ∀ i : Nat, k ≠ i → ((X ++ 35 :: DX).set k c)[i]? = (X ++ 35 :: DX)[i]? := fun i hi => List.getElem?_set_ne hi
  have hs : ((X ++ 35 :: DX).set k c)[k]? = some c := by rw [List.getElem?_set_self hkl]
  rcases Nat.lt_trichotomy T.length X.length with hl | hl | hl
  · exfalso
    have h1 := (hg T.length).symm.trans (at_mark T DT)
    by_cases e : k = T.length
    · have h2 := (hg X.length).trans ((ho X.length (by omega)).trans (at_mark X DX))
      exact hDT (behind_mark hl h2)
    · rw [ho _ e] at h1
      exact hX (ahead_mark hl h1)
  · rcases Nat.lt_trichotomy k X.length with hlt | hlt | hlt
    · rw [List.set_append_left _ _ hlt] at h
      obtain ⟨h1, h2⟩ := List.append_inj h (by rw [List.length_set, hl])
      rw [List.getElem?_append_left hlt] at hk
      exact .inl ⟨hk, h1, by injection h2⟩
    · exfalso
      subst hlt
      have h1 := (hg X.length).trans hs
      rw [← hl, at_mark T DT] at h1
      rw [at_mark X DX] at hk
      cases h1
      cases hk
      exact hne rfl
    · rw [List.set_append_right _ _ (by omega)] at h
      obtain ⟨h1, h2⟩ := List.append_inj h hl
      refine .inr ⟨h1, fun e => ?_⟩
      subst e h1
      have h3 := hg k
      rw [hs, List.getElem?_append_right (by omega)] at h3
      rw [List.getElem?_append_right (by omega)] at hk
      rw [hk] at h3
      cases h3
      exact hne rfl
  · exfalso
    by_cases e : k = X.length
    · have h1 := (hg T.length).symm.trans (at_mark T DT)
      rw [ho _ (by omega)] at h1
      exact hDX (behind_mark hl h1)
    · have h2 := (hg X.length).trans ((ho X.length e).trans (at_mark X DX))
      exact hT (ahead_mark hl h2)
theorem digit_mark {d : Nat} (h : d < 10) : (35 : UInt8) ≠ UInt8.ofNat (48 + d) := fun e => by
  have h2 := digit_u8 h
  rw [← e] at h2
  have : (35 : UInt8).toNat = 35 := rfl
  omega
theorem digits_mark (u : Nat) : (35 : UInt8) ∉ Lib.decDigits u := by
  induction u using Nat.strongRecOn with
  | _ u ih =>
    by_cases h : u < 10
    · rw [Lib.decDigits_one h]
      intro h9
      exact digit_mark h (by simpa using h9)
    · rw [Lib.decDigits, dif_neg h]
      intro h9
      rcases List.mem_append.1 h9 with h9 | h9
      · exact ih (u / 10) (by omega) h9
      · exact digit_mark (Nat.mod_lt u (by omega)) (by simpa using h9)
theorem seal_data (x : ByteArray) : (sealB x).data.toList = x.data.toList ++ 35 :: Lib.itoa (sumB 7 x.data.toList) := by
  unfold sealB
  rw [ByteArray.data_append, Array.toList_append, ByteArray.data_append, Array.toList_append, numB_data, List.append_assoc]
  rfl
theorem sum_mark (l : List UInt8) : (35 : UInt8) ∉ Lib.itoa (sumB 7 l) := by
  have h := sumB_bound 7 (by omega) l
  obtain ⟨u, hu⟩ : ∃ u : Nat, sumB 7 l = (u : Int) := ⟨(sumB 7 l).toNat, by omega⟩
  rw [hu, Lib.itoa_nonneg]
  exact digits_mark u
theorem has_mark {x : ByteArray} (h : hasB x 35 = false) : (35 : UInt8) ∉ x.data.toList := by
  unfold hasB at h
  simpa using h
theorem itoa_inj {m n : Int} (h : Lib.itoa m = Lib.itoa n) : m = n := numB_inj (by unfold numB; rw [h])
theorem head_seal {x : ByteArray} (h : hasB x 35 = false) : headA 35 (sealB x) = x := by
  apply bytes_ext
  unfold headA
  rw [seal_data, splitL_hit _ _ (has_mark h)]
  rfl
/-- one byte changed -/
theorem ver_changed {x y2 : ByteArray} {k : Nat} {a c : UInt8} (hx : hasB x 35 = false) (hk : (sealB x).data.toList[k]? = some a) (hne : c ≠ a) (h2 : y2.data.toList = (sealB x).data.toList.set k c) : verR y2 = (ByteArray.empty, false) := by
  unfold verR
  rw [if_neg]
  intro h
  rw [Bool.and_eq_true] at h
  have hs := of_decide_eq_true h.2
  have ht := headA_has 35 y2
  generalize headA 35 y2 = t at hs ht
  rw [← hs, seal_data, seal_data] at h2
  rw [seal_data] at hk
  rcases one_changed (has_mark hx) (has_mark ht) (sum_mark _) (sum_mark _) hk hne h2 with ⟨h3, h4, h5⟩ | ⟨h3, h4⟩
  · have h6 := itoa_inj h5
    rw [h4] at h6
    exact sum_changed _ k a c 7 (by omega) h3 hne h6
  · exact h4 (by rw [h3])
theorem app_yes {x y : ByteArray} (h : appR x = (y, true)) : hasB x 35 = false ∧ y = sealB x ∧ y.size ≤ 4000 := by
  unfold appR at h
  split at h
  · rename_i h9
    rw [Bool.and_eq_true, Bool.and_eq_true, decide_eq_true_iff, decide_eq_true_iff] at h9
    cases h
    refine ⟨?_, rfl, h9.2.2⟩
    have := h9.2.1
    simpa using this
  · cases h
theorem ver_app {x y : ByteArray} (h : appR x = (y, true)) : verR y = (x, true) := by
  obtain ⟨h1, rfl, h2⟩ := app_yes h
  unfold verR
  rw [head_seal h1, if_pos]
  simp [h2]
theorem app_no {x y : ByteArray} (h : appR x = (y, false)) : y = ByteArray.empty := by
  unfold appR at h
  split at h
  · cases h
  · cases h
    rfl
theorem fmt_read {n : Int} {s : ByteArray} (h : fmtR n = (s, true)) : rdR s = (n, true) := by
  unfold fmtR at h
  split at h
  · rename_i h9
    cases h
    have := inB_iff.1 h9
    exact rdR_ok this.1 this.2 rfl
  · cases h
theorem fmt_size {n : Int} : (fmtR n).1.size ≤ 21 := by
  unfold fmtR
  split
  · rename_i h9
    have := inB_iff.1 h9
    exact numB_size n (by omega) (by omega)
  · exact Nat.zero_le _
end Go.Proofs.YtajngpnpcefhdaaDoor
