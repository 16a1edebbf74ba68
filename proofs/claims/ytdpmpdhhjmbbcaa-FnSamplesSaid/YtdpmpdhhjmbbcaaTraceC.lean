/- Chapter 2, the walks: the sample that is greatest without its sign: the program's and the reference's. -/
import Derived.Test.YtdpmpdhhjmbbcaaProg
import Derived.Test.YtdpmpdhhjmbbcaaTraceB
namespace Go.Proofs.Ytdpmpdhhjmbbcaa
open Go.RowKit

/-- two ints and a bool come back -/
def RetNNB (w : World) (r s : Int) (b : Bool) (e : Ending) (w' : World) : Prop := e = .returned (.tuple #[.int .i64 r, .int .i64 s, .bool b]) ∧ Below w.heap.size w w'
def bestStep (xs : List Int) (b k : Nat) : Nat := if max (xs.getD b 0) (-xs.getD b 0) < max (xs.getD k 0) (-xs.getD k 0) then k else b
/-- where the greatest of the first k stands -/
def bestOf (xs : List Int) : Nat → Nat
  | 0 => 0
  | k + 1 => bestStep xs (bestOf xs k) k
theorem bestOf_lt (xs : List Int) {k n : Nat} (hk : k ≤ n) (hn : 0 < n) : bestOf xs k < n := by
  induction k with
  | zero => exact hn
  | succ k ih =>
    have := ih (by omega)
    unfold bestOf bestStep
    split <;> omega
/-- the tick, the sample, whether there is one -/
def lgR (st sa : Int) (xs : List Int) : Int × Int × Bool := if (goodB st sa xs && decide (0 < xs.length)) = true then (sa + (bestOf xs xs.length : Nat), xs.getD (bestOf xs xs.length) 0, true) else (0, 0, false)

set_option maxHeartbeats 2000000 in
set_option maxRecDepth 100000 in
theorem implLargest_any (st sa : Int) (A : Option Addr) (n c : Nat) (xs : List Int) (w : World) (hr : RI w w.heap.size A n xs) (hn : n ≤ 1048576) :
    Calls Try.prog 26 #[.agg #[.int .i64 st, .int .i64 sa, .slice A n c]] w (RetNNB w (lgR st sa xs).1 (lgR st sa xs).2.1 (lgR st sa xs).2.2) := by
  have HG := hide (implIsTrace_any st sa A n c xs (w.alloc (.cells #[.int .i64 st, .int .i64 sa, .slice A n c] 27)) ((hr.alloc (Nat.le_refl _) (.cells #[.int .i64 st, .int .i64 sa, .slice A n c] 27)).more (by simp)) hn)
  have HL := hide hr.len
  have B0 : Hid (Below w.heap.size w (w.alloc (.cells #[.int .i64 st, .int .i64 sa, .slice A n c] 27))) := (Below.refl _ _).alloc (Nat.le_refl _) _
  have HR := hide hr
  clear hr
  cases h1 : goodB st sa xs
  · have hR : lgR st sa xs = (0, 0, false) := by unfold lgR; rw [h1]; rfl
    have HRR := hide hR
    clear hR
    go_enter Try.func26, Try.ntmps26
    go_wp2_with (go_at_call 15; refine (unhide HG).mono ?_; rintro e w1 ⟨rfl, hb⟩; have HX := hide (box3_new hb); obtain ⟨hl1, p0, p1, p2⟩ := unhide HX; have HB := hide hb; clear hb)
    go_ret3
    exact ⟨by rw [unhide HRR]; rfl, (unhide B0).trans ((unhide HB).mono (by simp))⟩
  · obtain ⟨_, ⟨g0, g1⟩, hs, _⟩ := goodB_parts h1
    obtain rfl | hpos := Nat.eq_zero_or_pos n
    · have hR : lgR st sa xs = (0, 0, false) := by unfold lgR; rw [unhide HL]; simp
      have HRR := hide hR
      clear hR hs
      go_enter Try.func26, Try.ntmps26
      go_wp2_with (go_at_call 15; refine (unhide HG).mono ?_; rintro e w1 ⟨rfl, hb⟩; have HX := hide (box3_new hb); obtain ⟨hl1, p0, p1, p2⟩ := unhide HX; have HB := hide hb; clear hb)
      go_ret3
      exact ⟨by rw [unhide HRR]; rfl, (unhide B0).trans ((unhide HB).mono (by simp))⟩
    · have HS := hide (smpB_all hs)
      have hn24 : n ≤ 24 := by have := smpB_len hs; have := unhide HL; omega
      have hR : lgR st sa xs = (sa + (bestOf xs n : Nat), xs.getD (bestOf xs n) 0, true) := by unfold lgR; rw [h1, unhide HL]; simp [hpos]
      have HRR := hide hR
      clear hR hs
      obtain ⟨ad, x0, rfl, hbl, _, _⟩ := (unhide HR).get hpos
      have hzn : ((n : Int) == 0) = false := by simp; omega
      go_enter Try.func26, Try.ntmps26
      go_wp2_with (go_at_call 15; refine (unhide HG).mono ?_; rintro e w1 ⟨rfl, hb⟩; have HX := hide (box3_new hb); obtain ⟨hl1, p0, p1, p2⟩ := unhide HX; have HB := hide hb; clear hb)
      go_loopw [5, 20] (fun b i wr => ∃ k : Nat, k ≤ n ∧ i = .int .i64 k ∧ b = .int .i64 ((bestOf xs k : Nat) : Int) ∧ Hid (Below w1.heap.size w1 wr)) (fun _ i _ => n - (intOf i).toNat)
      case atStart => exact ⟨0, Nat.zero_le _, rfl, by simp [bestOf, bestStep], Below.refl _ _⟩
      case round =>
        obtain ⟨k, hk, rfl, rfl, hB⟩ := hrel
        obtain ⟨hl2, r0, r1, r2⟩ := box3_next (unhide HX) (unhide hB)
        have hB0 : Hid (Below w.heap.size w wr) := ((unhide B0).trans ((unhide HB).mono (by simp))).trans ((unhide hB).mono (Nat.le_of_lt (unhide HX).1))
        have hbn : bestOf xs k < n := bestOf_lt xs hk hpos
        obtain ⟨ad', y, hA', _, hy, hcy⟩ := ((unhide HR).below (unhide hB0)).get hbn
        obtain rfl := Option.some.inj hA'
        clear hA'
        have by1 := unhide HS y (List.mem_of_getElem? (unhide hy))
        obtain ⟨b, hb⟩ : ∃ b, b = bestOf xs k := ⟨_, rfl⟩
        rw [← hb] at hbn hy hcy ⊢
        by_cases hlt : k < n
        · obtain ⟨ad', x, hA', _, hx, hcx⟩ := ((unhide HR).below (unhide hB0)).get hlt
          obtain rfl := Option.some.inj hA'
          clear hA'
          have bx1 := unhide HS x (List.mem_of_getElem? (unhide hx))
          obtain ⟨X, hX⟩ : ∃ X : Int, X = max x (-x) := ⟨_, rfl⟩
          obtain ⟨Y, hY⟩ : ∃ Y : Int, Y = max y (-y) := ⟨_, rfl⟩
          have CX : Hid (∀ W, Calls Try.prog 57 #[.int .i64 x] W fun e w' => e = .returned (.int .i64 X) ∧ W = w') := by intro W; rw [hX]; exact abs_any _ _ (by omega) (by omega)
          have CY : Hid (∀ W, Calls Try.prog 57 #[.int .i64 y] W fun e w' => e = .returned (.int .i64 Y) ∧ W = w') := by intro W; rw [hY]; exact abs_any _ _ (by omega) (by omega)
          have HST : Hid (bestOf xs (k + 1) = if Y < X then k else b) := by
            unfold Hid
            rw [bestOf, bestStep, ← hb, getD_of (unhide hx), getD_of (unhide hy), ← hX, ← hY]
          clear hX hY hx hy hb bx1 by1
          have l0 : (0 : Int) ≤ (b : Int) := by omega
          have l1 : (b : Int) < (n : Int) := by omega
          have l2 : (0 : Int) ≤ (k : Int) := by omega
          have l3 : (k : Int) < (n : Int) := by omega
          by_cases hgt : Y < X
          all_goals
            go_wp2
            go_quiet ((first | (go_at_call 57; exact Calls.quiet_of_same ((unhide CX _).mono fun _ _ ⟨a, b⟩ => ⟨a, b.symm⟩)) | (go_at_call 57; exact Calls.quiet_of_same ((unhide CY _).mono fun _ _ ⟨a, b⟩ => ⟨a, b.symm⟩))))
            go_wp2
            first
              | (go_roundw; case rel => (exact ⟨k + 1, by omega, by go_num, by rw [unhide HST]; first | rw [if_pos (by omega)] | rw [if_neg (by omega)], below_drewN (unhide hB) _⟩); case measure => (simp [intOf]; omega))
              | (refine ⟨⟨k + 1, by omega, by go_num, by rw [unhide HST]; first | rw [if_pos (by omega)] | rw [if_neg (by omega)], below_drewN (unhide hB) _⟩, ?_⟩; simp [intOf]; omega)
        · have e : k = n := by omega
          subst e
          have HRR2 := hide (by rw [unhide HRR, ← hb, getD_of (unhide hy)] : lgR st sa xs = (sa + (b : Int), y, true))
          clear hb hy by1
          have l0 : (0 : Int) ≤ (b : Int) := by omega
          have l1 : (b : Int) < (k : Int) := by omega
          have s1 : IntKind.i64.wrap (sa + (b : Int)) = sa + (b : Int) := IntWalk.i64_in _ (by omega)
          go_wp2
          go_quiet (fail)
          clear s1
          go_wp2
          go_ret3
          exact ⟨by rw [unhide HRR2]; rfl, below_drewN (unhide hB0) _⟩

set_option maxHeartbeats 2000000 in
set_option maxRecDepth 100000 in
theorem specLargest_any (st sa : Int) (A : Option Addr) (n c : Nat) (xs : List Int) (w : World) (hr : RI w w.heap.size A n xs) (hn : n ≤ 1048576) :
    Calls Try.prog 25 #[.agg #[.int .i64 st, .int .i64 sa, .slice A n c]] w (RetNNB w (lgR st sa xs).1 (lgR st sa xs).2.1 (lgR st sa xs).2.2) := by
  have HG := hide (l2Good_any st sa A n c xs (w.alloc (.cells #[.int .i64 st, .int .i64 sa, .slice A n c] 27)) ((hr.alloc (Nat.le_refl _) (.cells #[.int .i64 st, .int .i64 sa, .slice A n c] 27)).more (by simp)) hn)
  have HL := hide hr.len
  have B0 : Hid (Below w.heap.size w (w.alloc (.cells #[.int .i64 st, .int .i64 sa, .slice A n c] 27))) := (Below.refl _ _).alloc (Nat.le_refl _) _
  have HR := hide hr
  clear hr
  cases h1 : goodB st sa xs
  · have hR : lgR st sa xs = (0, 0, false) := by unfold lgR; rw [h1]; rfl
    have HRR := hide hR
    clear hR
    go_enter Try.func25, Try.ntmps25
    go_wp2_with (go_at_call 46; refine (unhide HG).mono ?_; rintro e w1 ⟨rfl, hb⟩; have HX := hide (box3_new hb); obtain ⟨hl1, p0, p1, p2⟩ := unhide HX; have HB := hide hb; clear hb)
    go_ret3
    exact ⟨by rw [unhide HRR]; rfl, (unhide B0).trans ((unhide HB).mono (by simp))⟩
  · obtain ⟨_, ⟨g0, g1⟩, hs, _⟩ := goodB_parts h1
    obtain rfl | hpos := Nat.eq_zero_or_pos n
    · have hR : lgR st sa xs = (0, 0, false) := by unfold lgR; rw [unhide HL]; simp
      have HRR := hide hR
      clear hR hs
      go_enter Try.func25, Try.ntmps25
      go_wp2_with (go_at_call 46; refine (unhide HG).mono ?_; rintro e w1 ⟨rfl, hb⟩; have HX := hide (box3_new hb); obtain ⟨hl1, p0, p1, p2⟩ := unhide HX; have HB := hide hb; clear hb)
      go_ret3
      exact ⟨by rw [unhide HRR]; rfl, (unhide B0).trans ((unhide HB).mono (by simp))⟩
    · have HS := hide (smpB_all hs)
      have hn24 : n ≤ 24 := by have := smpB_len hs; have := unhide HL; omega
      have hR : lgR st sa xs = (sa + (bestOf xs n : Nat), xs.getD (bestOf xs n) 0, true) := by unfold lgR; rw [h1, unhide HL]; simp [hpos]
      have HRR := hide hR
      clear hR hs
      obtain ⟨ad, x0, rfl, hbl, _, _⟩ := (unhide HR).get hpos
      have hzn : ((n : Int) == 0) = false := by simp; omega
      go_enter Try.func25, Try.ntmps25
      go_wp2_with (go_at_call 46; refine (unhide HG).mono ?_; rintro e w1 ⟨rfl, hb⟩; have HX := hide (box3_new hb); obtain ⟨hl1, p0, p1, p2⟩ := unhide HX; have HB := hide hb; clear hb)
      go_loopw [5, 6] (fun b i wr => ∃ k : Nat, 1 ≤ k ∧ k ≤ n ∧ i = .int .i64 k ∧ b = .int .i64 ((bestOf xs k : Nat) : Int) ∧ Hid (Below w1.heap.size w1 wr)) (fun _ i _ => n - (intOf i).toNat)
      case atStart => exact ⟨1, by omega, by omega, rfl, by simp [bestOf, bestStep], Below.refl _ _⟩
      case round =>
        obtain ⟨k, hk1, hk, rfl, rfl, hB⟩ := hrel
        obtain ⟨hl2, r0, r1, r2⟩ := box3_next (unhide HX) (unhide hB)
        have hB0 : Hid (Below w.heap.size w wr) := ((unhide B0).trans ((unhide HB).mono (by simp))).trans ((unhide hB).mono (Nat.le_of_lt (unhide HX).1))
        have hbn : bestOf xs k < n := bestOf_lt xs hk hpos
        obtain ⟨ad', y, hA', _, hy, hcy⟩ := ((unhide HR).below (unhide hB0)).get hbn
        obtain rfl := Option.some.inj hA'
        clear hA'
        have by1 := unhide HS y (List.mem_of_getElem? (unhide hy))
        obtain ⟨b, hb⟩ : ∃ b, b = bestOf xs k := ⟨_, rfl⟩
        rw [← hb] at hbn hy hcy ⊢
        by_cases hlt : k < n
        · obtain ⟨ad', x, hA', _, hx, hcx⟩ := ((unhide HR).below (unhide hB0)).get hlt
          obtain rfl := Option.some.inj hA'
          clear hA'
          have bx1 := unhide HS x (List.mem_of_getElem? (unhide hx))
          obtain ⟨X, hX⟩ : ∃ X : Int, X = max x (-x) := ⟨_, rfl⟩
          obtain ⟨Y, hY⟩ : ∃ Y : Int, Y = max y (-y) := ⟨_, rfl⟩
          have CX : Hid (∀ W, Calls Try.prog 56 #[.int .i64 x] W fun e w' => e = .returned (.int .i64 X) ∧ W = w') := by intro W; rw [hX]; exact l2Size_any _ _ (by omega) (by omega)
          have CY : Hid (∀ W, Calls Try.prog 56 #[.int .i64 y] W fun e w' => e = .returned (.int .i64 Y) ∧ W = w') := by intro W; rw [hY]; exact l2Size_any _ _ (by omega) (by omega)
          have HST : Hid (bestOf xs (k + 1) = if Y < X then k else b) := by
            unfold Hid
            rw [bestOf, bestStep, ← hb, getD_of (unhide hx), getD_of (unhide hy), ← hX, ← hY]
          clear hX hY hx hy hb bx1 by1
          have l0 : (0 : Int) ≤ (b : Int) := by omega
          have l1 : (b : Int) < (n : Int) := by omega
          have l2 : (0 : Int) ≤ (k : Int) := by omega
          have l3 : (k : Int) < (n : Int) := by omega
          by_cases hgt : Y < X
          all_goals
            go_wp2
            go_quiet ((first | (go_at_call 56; exact Calls.quiet_of_same ((unhide CX _).mono fun _ _ ⟨a, b⟩ => ⟨a, b.symm⟩)) | (go_at_call 56; exact Calls.quiet_of_same ((unhide CY _).mono fun _ _ ⟨a, b⟩ => ⟨a, b.symm⟩))))
            go_wp2
            first
              | (go_roundw; case rel => (exact ⟨k + 1, by omega, by omega, by go_num, by rw [unhide HST]; first | rw [if_pos (by omega)] | rw [if_neg (by omega)], below_drewN (unhide hB) _⟩); case measure => (simp [intOf]; omega))
              | (refine ⟨⟨k + 1, by omega, by omega, by go_num, by rw [unhide HST]; first | rw [if_pos (by omega)] | rw [if_neg (by omega)], below_drewN (unhide hB) _⟩, ?_⟩; simp [intOf]; omega)
        · have e : k = n := by omega
          subst e
          have HRR2 := hide (by rw [unhide HRR, ← hb, getD_of (unhide hy)] : lgR st sa xs = (sa + (b : Int), y, true))
          clear hb hy by1
          have l0 : (0 : Int) ≤ (b : Int) := by omega
          have l1 : (b : Int) < (k : Int) := by omega
          have s1 : IntKind.i64.wrap (sa + (b : Int)) = sa + (b : Int) := IntWalk.i64_in _ (by omega)
          go_wp2
          go_quiet (fail)
          clear s1
          go_wp2
          go_ret3
          exact ⟨by rw [unhide HRR2]; rfl, below_drewN (unhide hB0) _⟩
end Go.Proofs.Ytdpmpdhhjmbbcaa
