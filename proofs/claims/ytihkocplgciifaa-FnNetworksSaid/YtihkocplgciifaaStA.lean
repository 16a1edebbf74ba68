/- Chapter 3, the walks: words, places, valid stations: the program's and the reference's. (By gen_stA.py.) -/
import Derived.Test.YtihkocplgciifaaProg
import Derived.Test.YtihkocplgciifaaBase
namespace Go.Proofs.Ytihkocplgciifaa
open Go.RowKit

/-- a small letter -/
def ltr (c : UInt8) : Bool := decide (97 ≤ (c.toNat : Int)) && decide ((c.toNat : Int) ≤ 122)
def wordB (s : ByteArray) : Bool := s.data.toList.all ltr && inB s.size 1 10
theorem letters_step (s : ByteArray) (k : Nat) (h : k < s.size) (h1 : (s.data.toList.take k).all ltr = true) (h2 : ltr s[k] = true) : (s.data.toList.take (k + 1)).all ltr = true := by
  rw [List.take_succ_eq_append_getElem (by simpa using h), List.all_append, h1]
  have h3 : ltr s.data[k] = true := h2
  simpa using h3
theorem letters_no (s : ByteArray) (k : Nat) (h : k < s.size) (h2 : ltr s[k] = false) : wordB s = false := by
  unfold wordB
  have : s.data.toList.all ltr = false := by
    rw [List.all_eq_false]
    exact ⟨s[k], List.getElem_mem (by simpa using h), by simpa using h2⟩
  rw [this]; rfl

set_option maxHeartbeats 400000 in
theorem isWord_any (s : ByteArray) (w : World) (hs : s.size ≤ 9223372036854775807) : Calls Try.prog 64 #[.string s] w fun e w' => e = .returned (.bool (wordB s)) ∧ w = w' := by
  go_enter Try.func64, Try.ntmps64
  go_wp2
  go_loop [6] (fun i => ∃ k : Nat, k ≤ s.size ∧ i = .int .i64 k ∧ Hid ((s.data.toList.take k).all ltr = true)) (fun i => s.size - (intOf i).toNat)
  case atStart => exact ⟨0, Nat.zero_le _, rfl, by simp [Hid]⟩
  case round =>
    obtain ⟨k, hk, rfl, hA⟩ := hrel
    by_cases hlt : k < s.size
    · by_cases h1 : ((s[k].toNat : Nat) : Int) < 97
      · have HE := hide (letters_no s k hlt (by unfold ltr; rw [decide_eq_false (by omega)]; rfl))
        clear hA
        go_wp2
        go_ret
        exact ⟨ret_bool (unhide HE).symm, rfl⟩
      · by_cases h2 : 122 < ((s[k].toNat : Nat) : Int)
        · have HE := hide (letters_no s k hlt (by unfold ltr; rw [decide_eq_false (by omega : ¬ ((s[k].toNat : Nat) : Int) ≤ 122), Bool.and_false]))
          clear hA
          go_wp2
          go_ret
          exact ⟨ret_bool (unhide HE).symm, rfl⟩
        · have HE := hide (letters_step s k hlt (unhide hA) (by unfold ltr; rw [decide_eq_true (by omega), decide_eq_true (by omega : ((s[k].toNat : Nat) : Int) ≤ 122)]; rfl))
          clear hA
          go_wp2
          go_round
          case rel => exact ⟨k + 1, by omega, by go_num, HE⟩
          case measure => simp [intOf]; omega
    · have e : k = s.size := by omega
      subst e
      have HE : Hid (wordB s = inB s.size 1 10) := by
        have h9 := unhide hA
        rw [List.take_of_length_le (by simp)] at h9
        unfold Hid wordB
        rw [h9, Bool.true_and]
      clear hA
      go_wp2_with (go_at_call 63; refine (in_any _ _ _ _).mono ?_; rintro e w' ⟨rfl, rfl⟩)
      go_ret
      exact ⟨ret_bool (unhide HE).symm, rfl⟩

set_option maxHeartbeats 400000 in
theorem l2Word_any (s : ByteArray) (w : World) (hs : s.size ≤ 9223372036854775807) : Calls Try.prog 110 #[.string s] w fun e w' => e = .returned (.bool (wordB s)) ∧ w = w' := by
  go_enter Try.func110, Try.ntmps110
  go_wp2
  go_loop [3] (fun i => ∃ k : Nat, k ≤ s.size ∧ i = .int .i64 k ∧ Hid ((s.data.toList.take k).all ltr = true)) (fun i => s.size - (intOf i).toNat)
  case atStart => exact ⟨0, Nat.zero_le _, rfl, by simp [Hid]⟩
  case round =>
    obtain ⟨k, hk, rfl, hA⟩ := hrel
    by_cases hlt : k < s.size
    · by_cases h1 : ((s[k].toNat : Nat) : Int) < 97
      · have HE := hide (letters_no s k hlt (by unfold ltr; rw [decide_eq_false (by omega)]; rfl))
        clear hA
        go_wp2
        go_ret
        exact ⟨ret_bool (unhide HE).symm, rfl⟩
      · by_cases h2 : 122 < ((s[k].toNat : Nat) : Int)
        · have HE := hide (letters_no s k hlt (by unfold ltr; rw [decide_eq_false (by omega : ¬ ((s[k].toNat : Nat) : Int) ≤ 122), Bool.and_false]))
          clear hA
          go_wp2
          go_ret
          exact ⟨ret_bool (unhide HE).symm, rfl⟩
        · have HE := hide (letters_step s k hlt (unhide hA) (by unfold ltr; rw [decide_eq_true (by omega), decide_eq_true (by omega : ((s[k].toNat : Nat) : Int) ≤ 122)]; rfl))
          clear hA
          go_wp2
          go_round
          case rel => exact ⟨k + 1, by omega, by go_num, HE⟩
          case measure => simp [intOf]; omega
    · have e : k = s.size := by omega
      subst e
      have HE : Hid (wordB s = inB s.size 1 10) := by
        have h9 := unhide hA
        rw [List.take_of_length_le (by simp)] at h9
        unfold Hid wordB
        rw [h9, Bool.true_and]
      clear hA
      go_wp2_with (go_at_call 75; refine (l1In_any _ _ _ _).mono ?_; rintro e w' ⟨rfl, rfl⟩)
      go_ret
      exact ⟨ret_bool (unhide HE).symm, rfl⟩

theorem isPlace_any (x y : Int) (w : World) : Calls Try.prog 65 #[.int .i64 x, .int .i64 y] w fun e w' => e = .returned (.bool (inB x 0 999 && inB y 0 999)) ∧ w = w' := by
  cases h : inB x 0 999
  all_goals
    go_enter Try.func65, Try.ntmps65
    go_wp2_with (go_at_call 63; refine (in_any _ _ _ _).mono ?_; rintro e w' ⟨rfl, rfl⟩)
    go_ret
    exact ⟨by first | rfl | simp [h], rfl⟩

theorem l2Place_any (x y : Int) (w : World) : Calls Try.prog 79 #[.int .i64 x, .int .i64 y] w fun e w' => e = .returned (.bool (inB x 0 999 && inB y 0 999)) ∧ w = w' := by
  cases h : inB x 0 999
  all_goals
    go_enter Try.func79, Try.ntmps79
    go_wp2_with (go_at_call 75; refine (l1In_any _ _ _ _).mono ?_; rintro e w' ⟨rfl, rfl⟩)
    go_ret
    exact ⟨by first | rfl | simp [h], rfl⟩

theorem l3Frequency_any (x : Int) (w : World) : Calls Try.prog 89 #[.int .i64 x] w fun e w' => e = .returned (.bool (inB x 1 5000)) ∧ w = w' := by
  go_enter Try.func89, Try.ntmps89
  go_wp2_with (go_at_call 75; refine (l1In_any _ _ _ _).mono ?_; rintro e w' ⟨rfl, rfl⟩)
  go_ret
  exact ⟨rfl, rfl⟩

/-- a valid station -/
def stB (id : Int) (nm : ByteArray) (x y gn lw hg ut : Int) : Bool := inB id 1 99 && wordB nm && (inB x 0 999 && inB y 0 999) && inB gn 1 10000 && (decide (1 ≤ lw) && decide (lw < hg) && decide (hg ≤ 5000)) && inB ut 0 1000000
theorem band_same (lw hg : Int) : (inB hg 1 5000 && inB lw 1 (hg - 1)) = (decide (1 ≤ lw) && decide (lw < hg) && decide (hg ≤ 5000)) := by
  rw [Bool.eq_iff_iff]
  simp only [Bool.and_eq_true, inB_iff, decide_eq_true_eq]
  omega
theorem stB_parts {id : Int} {nm : ByteArray} {x y gn lw hg ut : Int} (h : stB id nm x y gn lw hg ut = true) : (1 ≤ id ∧ id ≤ 99) ∧ wordB nm = true ∧ (0 ≤ x ∧ x ≤ 999) ∧ (0 ≤ y ∧ y ≤ 999) ∧ (1 ≤ gn ∧ gn ≤ 10000) ∧ (1 ≤ lw ∧ lw < hg ∧ hg ≤ 5000) ∧ (0 ≤ ut ∧ ut ≤ 1000000) := by
  unfold stB at h
  simp only [Bool.and_eq_true, decide_eq_true_eq] at h
  obtain ⟨⟨⟨⟨⟨h1, h2⟩, h3, h4⟩, h5⟩, ⟨h6, h7⟩, h8⟩, h9⟩ := h
  exact ⟨inB_iff.1 h1, h2, inB_iff.1 h3, inB_iff.1 h4, inB_iff.1 h5, ⟨h6, h7, h8⟩, inB_iff.1 h9⟩

set_option maxHeartbeats 4000000 in
set_option maxRecDepth 100000 in
theorem implIsStation_any (id : Int) (nm : ByteArray) (x y gn lw hg ut : Int) (w : World) (hs : nm.size ≤ 9223372036854775807) : Calls Try.prog 18 #[.agg #[.int .i64 id, .string nm, .int .i64 x, .int .i64 y, .int .i64 gn, .int .i64 lw, .int .i64 hg, .int .i64 ut]] w fun e w' => e = .returned (.bool (stB id nm x y gn lw hg ut)) ∧ Below w.heap.size w w' := by
  have B0 : Hid (Below w.heap.size w (w.alloc (.cells #[.int .i64 id, .string nm, .int .i64 x, .int .i64 y, .int .i64 gn, .int .i64 lw, .int .i64 hg, .int .i64 ut] 26))) := (Below.refl _ _).alloc (Nat.le_refl _) _
  rcases t1 : decide (1 ≤ lw) with _ | _
  · skip
    rcases h1 : inB id 1 99 with _ | _
    · skip
      have HE : Hid (stB id nm x y gn lw hg ut = false) := by unfold Hid stB; rw [h1]; simp
      go_enter Try.func18, Try.ntmps18
      go_wp2_with (first | (go_at_call 63; refine (in_any _ _ _ _).mono ?_; rintro e w' ⟨rfl, rfl⟩) | (go_at_call 64; refine (isWord_any _ _ hs).mono ?_; rintro e w' ⟨rfl, rfl⟩) | (go_at_call 65; refine (isPlace_any _ _ _).mono ?_; rintro e w' ⟨rfl, rfl⟩) | (go_at_call 66; refine (isTick_any _ _).mono ?_; rintro e w' ⟨rfl, rfl⟩))
      go_ret
      exact ⟨ret_bool (unhide HE).symm, unhide B0⟩
    · skip
      rcases h2 : wordB nm with _ | _
      · skip
        have HE : Hid (stB id nm x y gn lw hg ut = false) := by unfold Hid stB; rw [h1, h2]; simp
        go_enter Try.func18, Try.ntmps18
        go_wp2_with (first | (go_at_call 63; refine (in_any _ _ _ _).mono ?_; rintro e w' ⟨rfl, rfl⟩) | (go_at_call 64; refine (isWord_any _ _ hs).mono ?_; rintro e w' ⟨rfl, rfl⟩) | (go_at_call 65; refine (isPlace_any _ _ _).mono ?_; rintro e w' ⟨rfl, rfl⟩) | (go_at_call 66; refine (isTick_any _ _).mono ?_; rintro e w' ⟨rfl, rfl⟩))
        go_ret
        exact ⟨ret_bool (unhide HE).symm, unhide B0⟩
      · skip
        rcases h3 : (inB x 0 999 && inB y 0 999) with _ | _
        · skip
          have HE : Hid (stB id nm x y gn lw hg ut = false) := by unfold Hid stB; rw [h1, h2, h3]; simp
          go_enter Try.func18, Try.ntmps18
          go_wp2_with (first | (go_at_call 63; refine (in_any _ _ _ _).mono ?_; rintro e w' ⟨rfl, rfl⟩) | (go_at_call 64; refine (isWord_any _ _ hs).mono ?_; rintro e w' ⟨rfl, rfl⟩) | (go_at_call 65; refine (isPlace_any _ _ _).mono ?_; rintro e w' ⟨rfl, rfl⟩) | (go_at_call 66; refine (isTick_any _ _).mono ?_; rintro e w' ⟨rfl, rfl⟩))
          go_ret
          exact ⟨ret_bool (unhide HE).symm, unhide B0⟩
        · skip
          rcases h4 : inB gn 1 10000 with _ | _
          · skip
            have HE : Hid (stB id nm x y gn lw hg ut = false) := by unfold Hid stB; rw [h1, h2, h3, h4]; simp
            go_enter Try.func18, Try.ntmps18
            go_wp2_with (first | (go_at_call 63; refine (in_any _ _ _ _).mono ?_; rintro e w' ⟨rfl, rfl⟩) | (go_at_call 64; refine (isWord_any _ _ hs).mono ?_; rintro e w' ⟨rfl, rfl⟩) | (go_at_call 65; refine (isPlace_any _ _ _).mono ?_; rintro e w' ⟨rfl, rfl⟩) | (go_at_call 66; refine (isTick_any _ _).mono ?_; rintro e w' ⟨rfl, rfl⟩))
            go_ret
            exact ⟨ret_bool (unhide HE).symm, unhide B0⟩
          · skip
            have HE : Hid (stB id nm x y gn lw hg ut = false) := by unfold Hid stB; rw [t1]; simp
            go_enter Try.func18, Try.ntmps18
            go_wp2_with (first | (go_at_call 63; refine (in_any _ _ _ _).mono ?_; rintro e w' ⟨rfl, rfl⟩) | (go_at_call 64; refine (isWord_any _ _ hs).mono ?_; rintro e w' ⟨rfl, rfl⟩) | (go_at_call 65; refine (isPlace_any _ _ _).mono ?_; rintro e w' ⟨rfl, rfl⟩) | (go_at_call 66; refine (isTick_any _ _).mono ?_; rintro e w' ⟨rfl, rfl⟩))
            go_ret
            exact ⟨ret_bool (unhide HE).symm, unhide B0⟩
  · skip
    rcases t2 : decide (lw < hg) with _ | _
    · skip
      rcases h1 : inB id 1 99 with _ | _
      · skip
        have HE : Hid (stB id nm x y gn lw hg ut = false) := by unfold Hid stB; rw [h1]; simp
        go_enter Try.func18, Try.ntmps18
        go_wp2_with (first | (go_at_call 63; refine (in_any _ _ _ _).mono ?_; rintro e w' ⟨rfl, rfl⟩) | (go_at_call 64; refine (isWord_any _ _ hs).mono ?_; rintro e w' ⟨rfl, rfl⟩) | (go_at_call 65; refine (isPlace_any _ _ _).mono ?_; rintro e w' ⟨rfl, rfl⟩) | (go_at_call 66; refine (isTick_any _ _).mono ?_; rintro e w' ⟨rfl, rfl⟩))
        go_ret
        exact ⟨ret_bool (unhide HE).symm, unhide B0⟩
      · skip
        rcases h2 : wordB nm with _ | _
        · skip
          have HE : Hid (stB id nm x y gn lw hg ut = false) := by unfold Hid stB; rw [h1, h2]; simp
          go_enter Try.func18, Try.ntmps18
          go_wp2_with (first | (go_at_call 63; refine (in_any _ _ _ _).mono ?_; rintro e w' ⟨rfl, rfl⟩) | (go_at_call 64; refine (isWord_any _ _ hs).mono ?_; rintro e w' ⟨rfl, rfl⟩) | (go_at_call 65; refine (isPlace_any _ _ _).mono ?_; rintro e w' ⟨rfl, rfl⟩) | (go_at_call 66; refine (isTick_any _ _).mono ?_; rintro e w' ⟨rfl, rfl⟩))
          go_ret
          exact ⟨ret_bool (unhide HE).symm, unhide B0⟩
        · skip
          rcases h3 : (inB x 0 999 && inB y 0 999) with _ | _
          · skip
            have HE : Hid (stB id nm x y gn lw hg ut = false) := by unfold Hid stB; rw [h1, h2, h3]; simp
            go_enter Try.func18, Try.ntmps18
            go_wp2_with (first | (go_at_call 63; refine (in_any _ _ _ _).mono ?_; rintro e w' ⟨rfl, rfl⟩) | (go_at_call 64; refine (isWord_any _ _ hs).mono ?_; rintro e w' ⟨rfl, rfl⟩) | (go_at_call 65; refine (isPlace_any _ _ _).mono ?_; rintro e w' ⟨rfl, rfl⟩) | (go_at_call 66; refine (isTick_any _ _).mono ?_; rintro e w' ⟨rfl, rfl⟩))
            go_ret
            exact ⟨ret_bool (unhide HE).symm, unhide B0⟩
          · skip
            rcases h4 : inB gn 1 10000 with _ | _
            · skip
              have HE : Hid (stB id nm x y gn lw hg ut = false) := by unfold Hid stB; rw [h1, h2, h3, h4]; simp
              go_enter Try.func18, Try.ntmps18
              go_wp2_with (first | (go_at_call 63; refine (in_any _ _ _ _).mono ?_; rintro e w' ⟨rfl, rfl⟩) | (go_at_call 64; refine (isWord_any _ _ hs).mono ?_; rintro e w' ⟨rfl, rfl⟩) | (go_at_call 65; refine (isPlace_any _ _ _).mono ?_; rintro e w' ⟨rfl, rfl⟩) | (go_at_call 66; refine (isTick_any _ _).mono ?_; rintro e w' ⟨rfl, rfl⟩))
              go_ret
              exact ⟨ret_bool (unhide HE).symm, unhide B0⟩
            · skip
              have HE : Hid (stB id nm x y gn lw hg ut = false) := by unfold Hid stB; rw [t2]; simp
              go_enter Try.func18, Try.ntmps18
              go_wp2_with (first | (go_at_call 63; refine (in_any _ _ _ _).mono ?_; rintro e w' ⟨rfl, rfl⟩) | (go_at_call 64; refine (isWord_any _ _ hs).mono ?_; rintro e w' ⟨rfl, rfl⟩) | (go_at_call 65; refine (isPlace_any _ _ _).mono ?_; rintro e w' ⟨rfl, rfl⟩) | (go_at_call 66; refine (isTick_any _ _).mono ?_; rintro e w' ⟨rfl, rfl⟩))
              go_ret
              exact ⟨ret_bool (unhide HE).symm, unhide B0⟩
    · skip
      rcases t3 : decide (hg ≤ 5000) with _ | _
      · skip
        rcases h1 : inB id 1 99 with _ | _
        · skip
          have HE : Hid (stB id nm x y gn lw hg ut = false) := by unfold Hid stB; rw [h1]; simp
          go_enter Try.func18, Try.ntmps18
          go_wp2_with (first | (go_at_call 63; refine (in_any _ _ _ _).mono ?_; rintro e w' ⟨rfl, rfl⟩) | (go_at_call 64; refine (isWord_any _ _ hs).mono ?_; rintro e w' ⟨rfl, rfl⟩) | (go_at_call 65; refine (isPlace_any _ _ _).mono ?_; rintro e w' ⟨rfl, rfl⟩) | (go_at_call 66; refine (isTick_any _ _).mono ?_; rintro e w' ⟨rfl, rfl⟩))
          go_ret
          exact ⟨ret_bool (unhide HE).symm, unhide B0⟩
        · skip
          rcases h2 : wordB nm with _ | _
          · skip
            have HE : Hid (stB id nm x y gn lw hg ut = false) := by unfold Hid stB; rw [h1, h2]; simp
            go_enter Try.func18, Try.ntmps18
            go_wp2_with (first | (go_at_call 63; refine (in_any _ _ _ _).mono ?_; rintro e w' ⟨rfl, rfl⟩) | (go_at_call 64; refine (isWord_any _ _ hs).mono ?_; rintro e w' ⟨rfl, rfl⟩) | (go_at_call 65; refine (isPlace_any _ _ _).mono ?_; rintro e w' ⟨rfl, rfl⟩) | (go_at_call 66; refine (isTick_any _ _).mono ?_; rintro e w' ⟨rfl, rfl⟩))
            go_ret
            exact ⟨ret_bool (unhide HE).symm, unhide B0⟩
          · skip
            rcases h3 : (inB x 0 999 && inB y 0 999) with _ | _
            · skip
              have HE : Hid (stB id nm x y gn lw hg ut = false) := by unfold Hid stB; rw [h1, h2, h3]; simp
              go_enter Try.func18, Try.ntmps18
              go_wp2_with (first | (go_at_call 63; refine (in_any _ _ _ _).mono ?_; rintro e w' ⟨rfl, rfl⟩) | (go_at_call 64; refine (isWord_any _ _ hs).mono ?_; rintro e w' ⟨rfl, rfl⟩) | (go_at_call 65; refine (isPlace_any _ _ _).mono ?_; rintro e w' ⟨rfl, rfl⟩) | (go_at_call 66; refine (isTick_any _ _).mono ?_; rintro e w' ⟨rfl, rfl⟩))
              go_ret
              exact ⟨ret_bool (unhide HE).symm, unhide B0⟩
            · skip
              rcases h4 : inB gn 1 10000 with _ | _
              · skip
                have HE : Hid (stB id nm x y gn lw hg ut = false) := by unfold Hid stB; rw [h1, h2, h3, h4]; simp
                go_enter Try.func18, Try.ntmps18
                go_wp2_with (first | (go_at_call 63; refine (in_any _ _ _ _).mono ?_; rintro e w' ⟨rfl, rfl⟩) | (go_at_call 64; refine (isWord_any _ _ hs).mono ?_; rintro e w' ⟨rfl, rfl⟩) | (go_at_call 65; refine (isPlace_any _ _ _).mono ?_; rintro e w' ⟨rfl, rfl⟩) | (go_at_call 66; refine (isTick_any _ _).mono ?_; rintro e w' ⟨rfl, rfl⟩))
                go_ret
                exact ⟨ret_bool (unhide HE).symm, unhide B0⟩
              · skip
                have HE : Hid (stB id nm x y gn lw hg ut = false) := by unfold Hid stB; rw [t3]; simp
                go_enter Try.func18, Try.ntmps18
                go_wp2_with (first | (go_at_call 63; refine (in_any _ _ _ _).mono ?_; rintro e w' ⟨rfl, rfl⟩) | (go_at_call 64; refine (isWord_any _ _ hs).mono ?_; rintro e w' ⟨rfl, rfl⟩) | (go_at_call 65; refine (isPlace_any _ _ _).mono ?_; rintro e w' ⟨rfl, rfl⟩) | (go_at_call 66; refine (isTick_any _ _).mono ?_; rintro e w' ⟨rfl, rfl⟩))
                go_ret
                exact ⟨ret_bool (unhide HE).symm, unhide B0⟩
      · skip
        rcases h1 : inB id 1 99 with _ | _
        · skip
          have HE : Hid (stB id nm x y gn lw hg ut = false) := by unfold Hid stB; rw [h1]; simp
          go_enter Try.func18, Try.ntmps18
          go_wp2_with (first | (go_at_call 63; refine (in_any _ _ _ _).mono ?_; rintro e w' ⟨rfl, rfl⟩) | (go_at_call 64; refine (isWord_any _ _ hs).mono ?_; rintro e w' ⟨rfl, rfl⟩) | (go_at_call 65; refine (isPlace_any _ _ _).mono ?_; rintro e w' ⟨rfl, rfl⟩) | (go_at_call 66; refine (isTick_any _ _).mono ?_; rintro e w' ⟨rfl, rfl⟩))
          go_ret
          exact ⟨ret_bool (unhide HE).symm, unhide B0⟩
        · skip
          rcases h2 : wordB nm with _ | _
          · skip
            have HE : Hid (stB id nm x y gn lw hg ut = false) := by unfold Hid stB; rw [h1, h2]; simp
            go_enter Try.func18, Try.ntmps18
            go_wp2_with (first | (go_at_call 63; refine (in_any _ _ _ _).mono ?_; rintro e w' ⟨rfl, rfl⟩) | (go_at_call 64; refine (isWord_any _ _ hs).mono ?_; rintro e w' ⟨rfl, rfl⟩) | (go_at_call 65; refine (isPlace_any _ _ _).mono ?_; rintro e w' ⟨rfl, rfl⟩) | (go_at_call 66; refine (isTick_any _ _).mono ?_; rintro e w' ⟨rfl, rfl⟩))
            go_ret
            exact ⟨ret_bool (unhide HE).symm, unhide B0⟩
          · skip
            rcases h3 : (inB x 0 999 && inB y 0 999) with _ | _
            · skip
              have HE : Hid (stB id nm x y gn lw hg ut = false) := by unfold Hid stB; rw [h1, h2, h3]; simp
              go_enter Try.func18, Try.ntmps18
              go_wp2_with (first | (go_at_call 63; refine (in_any _ _ _ _).mono ?_; rintro e w' ⟨rfl, rfl⟩) | (go_at_call 64; refine (isWord_any _ _ hs).mono ?_; rintro e w' ⟨rfl, rfl⟩) | (go_at_call 65; refine (isPlace_any _ _ _).mono ?_; rintro e w' ⟨rfl, rfl⟩) | (go_at_call 66; refine (isTick_any _ _).mono ?_; rintro e w' ⟨rfl, rfl⟩))
              go_ret
              exact ⟨ret_bool (unhide HE).symm, unhide B0⟩
            · skip
              rcases h4 : inB gn 1 10000 with _ | _
              · skip
                have HE : Hid (stB id nm x y gn lw hg ut = false) := by unfold Hid stB; rw [h1, h2, h3, h4]; simp
                go_enter Try.func18, Try.ntmps18
                go_wp2_with (first | (go_at_call 63; refine (in_any _ _ _ _).mono ?_; rintro e w' ⟨rfl, rfl⟩) | (go_at_call 64; refine (isWord_any _ _ hs).mono ?_; rintro e w' ⟨rfl, rfl⟩) | (go_at_call 65; refine (isPlace_any _ _ _).mono ?_; rintro e w' ⟨rfl, rfl⟩) | (go_at_call 66; refine (isTick_any _ _).mono ?_; rintro e w' ⟨rfl, rfl⟩))
                go_ret
                exact ⟨ret_bool (unhide HE).symm, unhide B0⟩
              · skip
                rcases h6 : inB ut 0 1000000 with _ | _
                · skip
                  have HE : Hid (stB id nm x y gn lw hg ut = false) := by unfold Hid stB; rw [h1, h2, h3, h4, t1, t2, t3, h6]; simp
                  go_enter Try.func18, Try.ntmps18
                  go_wp2_with (first | (go_at_call 63; refine (in_any _ _ _ _).mono ?_; rintro e w' ⟨rfl, rfl⟩) | (go_at_call 64; refine (isWord_any _ _ hs).mono ?_; rintro e w' ⟨rfl, rfl⟩) | (go_at_call 65; refine (isPlace_any _ _ _).mono ?_; rintro e w' ⟨rfl, rfl⟩) | (go_at_call 66; refine (isTick_any _ _).mono ?_; rintro e w' ⟨rfl, rfl⟩))
                  go_ret
                  exact ⟨ret_bool (unhide HE).symm, unhide B0⟩
                · skip
                  have HE : Hid (stB id nm x y gn lw hg ut = true) := by unfold Hid stB; rw [h1, h2, h3, h4, t1, t2, t3, h6]; rfl
                  go_enter Try.func18, Try.ntmps18
                  go_wp2_with (first | (go_at_call 63; refine (in_any _ _ _ _).mono ?_; rintro e w' ⟨rfl, rfl⟩) | (go_at_call 64; refine (isWord_any _ _ hs).mono ?_; rintro e w' ⟨rfl, rfl⟩) | (go_at_call 65; refine (isPlace_any _ _ _).mono ?_; rintro e w' ⟨rfl, rfl⟩) | (go_at_call 66; refine (isTick_any _ _).mono ?_; rintro e w' ⟨rfl, rfl⟩))
                  go_ret
                  exact ⟨ret_bool (unhide HE).symm, unhide B0⟩

set_option maxHeartbeats 4000000 in
set_option maxRecDepth 100000 in
theorem l3One_any (id : Int) (nm : ByteArray) (x y gn lw hg ut : Int) (w : World) (hs : nm.size ≤ 9223372036854775807) : Calls Try.prog 62 #[.agg #[.int .i64 id, .string nm, .int .i64 x, .int .i64 y, .int .i64 gn, .int .i64 lw, .int .i64 hg, .int .i64 ut]] w fun e w' => e = .returned (.bool (stB id nm x y gn lw hg ut)) ∧ Below w.heap.size w w' := by
  have B0 : Hid (Below w.heap.size w (w.alloc (.cells #[.int .i64 id, .string nm, .int .i64 x, .int .i64 y, .int .i64 gn, .int .i64 lw, .int .i64 hg, .int .i64 ut] 26))) := (Below.refl _ _).alloc (Nat.le_refl _) _
  rcases h1 : inB id 1 99 with _ | _
  · skip
    have HE : Hid (stB id nm x y gn lw hg ut = false) := by unfold Hid stB; rw [h1]; simp
    go_enter Try.func62, Try.ntmps62
    go_wp2_with (first | (go_at_call 75; refine (l1In_any _ _ _ _).mono ?_; rintro e w' ⟨rfl, rfl⟩) | (go_at_call 110; refine (l2Word_any _ _ hs).mono ?_; rintro e w' ⟨rfl, rfl⟩) | (go_at_call 79; refine (l2Place_any _ _ _).mono ?_; rintro e w' ⟨rfl, rfl⟩) | (go_at_call 89; refine (l3Frequency_any _ _).mono ?_; rintro e w' ⟨rfl, rfl⟩) | (go_at_call 92; refine (l2Tick_any _ _).mono ?_; rintro e w' ⟨rfl, rfl⟩))
    go_ret
    exact ⟨ret_bool (unhide HE).symm, unhide B0⟩
  · skip
    rcases h2 : wordB nm with _ | _
    · skip
      have HE : Hid (stB id nm x y gn lw hg ut = false) := by unfold Hid stB; rw [h2]; simp
      go_enter Try.func62, Try.ntmps62
      go_wp2_with (first | (go_at_call 75; refine (l1In_any _ _ _ _).mono ?_; rintro e w' ⟨rfl, rfl⟩) | (go_at_call 110; refine (l2Word_any _ _ hs).mono ?_; rintro e w' ⟨rfl, rfl⟩) | (go_at_call 79; refine (l2Place_any _ _ _).mono ?_; rintro e w' ⟨rfl, rfl⟩) | (go_at_call 89; refine (l3Frequency_any _ _).mono ?_; rintro e w' ⟨rfl, rfl⟩) | (go_at_call 92; refine (l2Tick_any _ _).mono ?_; rintro e w' ⟨rfl, rfl⟩))
      go_ret
      exact ⟨ret_bool (unhide HE).symm, unhide B0⟩
    · skip
      rcases h3 : (inB x 0 999 && inB y 0 999) with _ | _
      · skip
        have HE : Hid (stB id nm x y gn lw hg ut = false) := by unfold Hid stB; rw [h3]; simp
        go_enter Try.func62, Try.ntmps62
        go_wp2_with (first | (go_at_call 75; refine (l1In_any _ _ _ _).mono ?_; rintro e w' ⟨rfl, rfl⟩) | (go_at_call 110; refine (l2Word_any _ _ hs).mono ?_; rintro e w' ⟨rfl, rfl⟩) | (go_at_call 79; refine (l2Place_any _ _ _).mono ?_; rintro e w' ⟨rfl, rfl⟩) | (go_at_call 89; refine (l3Frequency_any _ _).mono ?_; rintro e w' ⟨rfl, rfl⟩) | (go_at_call 92; refine (l2Tick_any _ _).mono ?_; rintro e w' ⟨rfl, rfl⟩))
        go_ret
        exact ⟨ret_bool (unhide HE).symm, unhide B0⟩
      · skip
        rcases h4 : inB gn 1 10000 with _ | _
        · skip
          have HE : Hid (stB id nm x y gn lw hg ut = false) := by unfold Hid stB; rw [h4]; simp
          go_enter Try.func62, Try.ntmps62
          go_wp2_with (first | (go_at_call 75; refine (l1In_any _ _ _ _).mono ?_; rintro e w' ⟨rfl, rfl⟩) | (go_at_call 110; refine (l2Word_any _ _ hs).mono ?_; rintro e w' ⟨rfl, rfl⟩) | (go_at_call 79; refine (l2Place_any _ _ _).mono ?_; rintro e w' ⟨rfl, rfl⟩) | (go_at_call 89; refine (l3Frequency_any _ _).mono ?_; rintro e w' ⟨rfl, rfl⟩) | (go_at_call 92; refine (l2Tick_any _ _).mono ?_; rintro e w' ⟨rfl, rfl⟩))
          go_ret
          exact ⟨ret_bool (unhide HE).symm, unhide B0⟩
        · skip
          rcases h5 : inB hg 1 5000 with _ | _
          · skip
            have HE : Hid (stB id nm x y gn lw hg ut = false) := by unfold Hid stB; rw [← band_same, h5]; simp
            go_enter Try.func62, Try.ntmps62
            go_wp2_with (first | (go_at_call 75; refine (l1In_any _ _ _ _).mono ?_; rintro e w' ⟨rfl, rfl⟩) | (go_at_call 110; refine (l2Word_any _ _ hs).mono ?_; rintro e w' ⟨rfl, rfl⟩) | (go_at_call 79; refine (l2Place_any _ _ _).mono ?_; rintro e w' ⟨rfl, rfl⟩) | (go_at_call 89; refine (l3Frequency_any _ _).mono ?_; rintro e w' ⟨rfl, rfl⟩) | (go_at_call 92; refine (l2Tick_any _ _).mono ?_; rintro e w' ⟨rfl, rfl⟩))
            go_ret
            exact ⟨ret_bool (unhide HE).symm, unhide B0⟩
          · skip
            obtain ⟨q0, q1⟩ := inB_iff.1 h5
            rcases h5b : inB lw 1 (hg - 1) with _ | _
            · skip
              have HE : Hid (stB id nm x y gn lw hg ut = false) := by unfold Hid stB; rw [← band_same, h5b]; simp
              go_enter Try.func62, Try.ntmps62
              go_wp2_with (first | (go_at_call 75; refine (l1In_any _ _ _ _).mono ?_; rintro e w' ⟨rfl, rfl⟩) | (go_at_call 110; refine (l2Word_any _ _ hs).mono ?_; rintro e w' ⟨rfl, rfl⟩) | (go_at_call 79; refine (l2Place_any _ _ _).mono ?_; rintro e w' ⟨rfl, rfl⟩) | (go_at_call 89; refine (l3Frequency_any _ _).mono ?_; rintro e w' ⟨rfl, rfl⟩) | (go_at_call 92; refine (l2Tick_any _ _).mono ?_; rintro e w' ⟨rfl, rfl⟩))
              go_ret
              exact ⟨ret_bool (unhide HE).symm, unhide B0⟩
            · skip
              rcases h6 : inB ut 0 1000000 with _ | _
              · skip
                have HE : Hid (stB id nm x y gn lw hg ut = false) := by unfold Hid stB; rw [h6]; simp
                go_enter Try.func62, Try.ntmps62
                go_wp2_with (first | (go_at_call 75; refine (l1In_any _ _ _ _).mono ?_; rintro e w' ⟨rfl, rfl⟩) | (go_at_call 110; refine (l2Word_any _ _ hs).mono ?_; rintro e w' ⟨rfl, rfl⟩) | (go_at_call 79; refine (l2Place_any _ _ _).mono ?_; rintro e w' ⟨rfl, rfl⟩) | (go_at_call 89; refine (l3Frequency_any _ _).mono ?_; rintro e w' ⟨rfl, rfl⟩) | (go_at_call 92; refine (l2Tick_any _ _).mono ?_; rintro e w' ⟨rfl, rfl⟩))
                go_ret
                exact ⟨ret_bool (unhide HE).symm, unhide B0⟩
              · skip
                have HE : Hid (stB id nm x y gn lw hg ut = true) := by unfold Hid stB; rw [← band_same, h1, h2, h3, h4, h5, h5b, h6]; rfl
                go_enter Try.func62, Try.ntmps62
                go_wp2_with (first | (go_at_call 75; refine (l1In_any _ _ _ _).mono ?_; rintro e w' ⟨rfl, rfl⟩) | (go_at_call 110; refine (l2Word_any _ _ hs).mono ?_; rintro e w' ⟨rfl, rfl⟩) | (go_at_call 79; refine (l2Place_any _ _ _).mono ?_; rintro e w' ⟨rfl, rfl⟩) | (go_at_call 89; refine (l3Frequency_any _ _).mono ?_; rintro e w' ⟨rfl, rfl⟩) | (go_at_call 92; refine (l2Tick_any _ _).mono ?_; rintro e w' ⟨rfl, rfl⟩))
                go_ret
                exact ⟨ret_bool (unhide HE).symm, unhide B0⟩

theorem specIsStation_any (id : Int) (nm : ByteArray) (x y gn lw hg ut : Int) (w : World) (hs : nm.size ≤ 9223372036854775807) : Calls Try.prog 16 #[.agg #[.int .i64 id, .string nm, .int .i64 x, .int .i64 y, .int .i64 gn, .int .i64 lw, .int .i64 hg, .int .i64 ut]] w fun e w' => e = .returned (.bool (stB id nm x y gn lw hg ut)) ∧ Below w.heap.size w w' := by
  have HC := hide (fun W => l3One_any id nm x y gn lw hg ut W hs)
  generalize stB id nm x y gn lw hg ut = r at *
  go_enter Try.func16, Try.ntmps16
  go_wp2_with fail
  refine (unhide HC _).mono ?_
  rintro e w1 ⟨rfl, hb⟩
  have HB := hide (((Below.refl _ w).alloc (Nat.le_refl _) _).trans (hb.mono (by simp)))
  clear hb
  go_wp2
  go_ret
  exact ⟨rfl, unhide HB⟩
end Go.Proofs.Ytihkocplgciifaa
