/- Chapter 1, plain: what is split at a byte and joined again is the whole; the order of texts is strict. -/
import Derived.Test.YtibnindjdbkmcaaDoorProg
import Derived.Test.YtibnindjdbkmcaaDoorSplitB
import Derived.Test.YtibnindjdbkmcaaDoorJoin
namespace Go.Proofs.YtibnindjdbkmcaaDoor
open Go.RowKit

theorem join_split (b : UInt8) : ∀ l : List UInt8, Lib.join (splitL b l) [b] = l
  | [] => by simp [splitL, Lib.join_one]
  | c :: l => by
    have ih := join_split b l
    rcases hs : splitL b l with _ | ⟨h, t⟩
    · exact absurd hs (splitL_ne b l)
    · rw [hs, Lib.join_cons] at ih
      unfold splitL
      by_cases hc : c = b
      · rw [if_pos hc, hs, Lib.join_cons]
        subst hc
        simpa [Lib.joinTail] using ih
      · rw [if_neg hc, hs]
        simp only
        rw [Lib.join_cons, List.cons_append, ih]
theorem split_no (b : UInt8) : ∀ l : List UInt8, ∀ p ∈ splitL b l, b ∉ p
  | [] => fun p hp => by simp [splitL] at hp; subst hp; simp
  | c :: l => by
    have ih := split_no b l
    rcases hs : splitL b l with _ | ⟨h, t⟩
    · exact absurd hs (splitL_ne b l)
    · rw [hs] at ih
      unfold splitL
      by_cases hc : c = b
      · rw [if_pos hc, hs]
        intro p hp
        rcases List.mem_cons.1 hp with rfl | hp
        · simp
        · exact ih p hp
      · rw [if_neg hc, hs]
        simp only
        intro p hp
        rcases List.mem_cons.1 hp with rfl | hp
        · intro hb
          rcases List.mem_cons.1 hb with rfl | hb
          · exact hc rfl
          · exact ih h (List.mem_cons_self ..) hb
        · exact ih p (List.mem_cons_of_mem _ hp)
theorem splitA_map (b : UInt8) (s : ByteArray) : (splitA b s).map (·.data.toList) = splitL b s.data.toList := by
  unfold splitA
  rw [List.map_map]
  have e : ((fun x : ByteArray => x.data.toList) ∘ fun l : List UInt8 => (⟨l.toArray⟩ : ByteArray)) = id := by funext l; simp
  rw [e, List.map_id]
theorem splitA_join (b : UInt8) (s : ByteArray) : joinB ⟨#[b]⟩ (splitA b s) = s := by
  apply bytes_ext
  rw [joinB_data, splitA_map]
  exact join_split b _
theorem splitA_pos (b : UInt8) (s : ByteArray) : 0 < (splitA b s).length := by
  unfold splitA
  rw [List.length_map]
  exact List.length_pos_iff.2 (splitL_ne b _)
theorem join_of_split (b : UInt8) (s : ByteArray) (hs : s.size ≤ 4000) : joinR (splitA b s) ⟨#[b]⟩ = (s, true) := by
  have h1 := joinB_size (sep := ⟨#[b]⟩) (xs := splitA b s) rfl (splitA_pos b s)
  rw [splitA_join] at h1
  rw [joinR_ok (splitA_pos b s) ?_ (by omega), splitA_join]
  intro x hx
  obtain ⟨l, hl, rfl⟩ := List.mem_map.1 hx
  have := split_no b _ l hl
  unfold hasB
  simpa using this
theorem part_small (b : UInt8) (s : ByteArray) (hs : s.size ≤ 4000) : ∀ x ∈ splitA b s, x.size ≤ 1048576 := by
  have h1 := joinB_size (sep := ⟨#[b]⟩) (xs := splitA b s) rfl (splitA_pos b s)
  rw [splitA_join] at h1
  intro x hx
  obtain ⟨k, hk, e⟩ := List.getElem_of_mem hx
  have h2 := lenT_take_succ (xs := splitA b s) (k := k) (x := x) (by rw [List.getElem?_eq_getElem hk, e])
  have h3 := lenT_take_le (splitA b s) (k + 1)
  omega
theorem less_asym : ∀ x y : List UInt8, (Op.bytesLess x y && Op.bytesLess y x) = false
  | [], [] => rfl
  | [], _ :: _ => rfl
  | _ :: _, [] => rfl
  | a :: x, b :: y => by
    have ih := less_asym x y
    unfold Op.bytesLess
    by_cases h1 : a < b
    · have h2 : ¬ b < a := fun h => UInt8.lt_irrefl _ (UInt8.lt_trans h1 h)
      have h3 : (b == a) = false := by rw [beq_eq_false_iff_ne]; rintro rfl; exact UInt8.lt_irrefl _ h1
      simp [h1, h2, h3]
    · by_cases h2 : b < a
      · have h3 : (a == b) = false := by rw [beq_eq_false_iff_ne]; rintro rfl; exact UInt8.lt_irrefl _ h2
        simp [h1, h2, h3]
      · simp only [h1, h2, decide_false, Bool.false_or]
        cases ha : (a == b) <;> cases hb : (b == a) <;> simp_all
theorem OwnT.cap {w : World} {lo n c : Nat} {A : Option Addr} {xs : List ByteArray} (h : OwnT w lo A n c xs) : n ≤ c := by
  rcases h.2 with ⟨hv, h0⟩ | ⟨g, cap, cur, hv, hg, hh, hle, _⟩
  · omega
  · injection hv with _ _ h3
    omega
theorem specLess_any (a b : ByteArray) (w : World) : Calls Tryd.prog 17 #[.string a, .string b] w fun e w' => e = .returned (.bool (Op.bytesLess a.toList b.toList)) ∧ w = w' := by
  go_enter Tryd.func17, Tryd.ntmps17
  go_wp2_with fail
  go_ret
  exact ⟨rfl, rfl⟩
theorem implLess_any (a b : ByteArray) (w : World) : Calls Tryd.prog 16 #[.string a, .string b] w fun e w' => e = .returned (.bool (Op.bytesLess a.toList b.toList)) ∧ w = w' := by
  go_enter Tryd.func16, Tryd.ntmps16
  go_wp2_with fail
  go_ret
  exact ⟨rfl, rfl⟩
end Go.Proofs.YtibnindjdbkmcaaDoor
