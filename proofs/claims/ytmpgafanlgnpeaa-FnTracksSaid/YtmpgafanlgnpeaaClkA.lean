/- Chapter 5, the walks: valid tracks: the program's and the reference's. (By gen_clkA.py.) -/
import Derived.Test.YtmpgafanlgnpeaaProg
import Derived.Test.YtmpgafanlgnpeaaMarks
import Derived.Test.YtmpgafanlgnpeaaClkPlain
namespace Go.Proofs.Ytmpgafanlgnpeaa
open Go.RowKit

theorem addr_add_zero (a : Addr) : a.add 0 = a := by unfold Addr.add; rfl
theorem mks_step {xs : List (Int × Int)} {k : Nat} (h : mksB xs k = true) (h1 : mkB xs k = true) : mksB xs (k + 1) = true := by rw [mksB, h, h1]; rfl
theorem mkB_zero {xs : List (Int × Int)} {x y : Int} (h : xs[0]? = some (x, y)) : mkB xs 0 = (inB x 0 1000000 && inB y 0 1000000) := by
  unfold mkB
  rw [sh_of h, tr_of h]
  simp
theorem mkB_next {xs : List (Int × Int)} {k : Nat} {x y x' y' : Int} (h : xs[k]? = some (x, y)) (hk : 1 ≤ k) (h' : xs[k - 1]? = some (x', y')) : mkB xs k = (inB x 0 1000000 && inB y 0 1000000 && (decide (x' < x) && decide (y' < y))) := by
  unfold mkB
  rw [sh_of h, tr_of h, sh_of h', tr_of h']
  have : decide (k = 0) = false := by simp; omega
  rw [this, Bool.false_or]

set_option maxHeartbeats 4000000 in
set_option maxRecDepth 100000 in
theorem implIsTrack_any (A : Option Addr) (n c : Nat) (xs : List (Int × Int)) (w : World) (hr : RP w w.heap.size A n xs) (hn : n ≤ 9223372036854775807) :
    Calls Try.prog 18 #[.slice A n c] w fun e w' => e = .returned (.bool (trkB xs)) ∧ Below w.heap.size w w' := by
  have HR := hide hr
  have HL := hide hr.len
  clear hr
  go_enter Try.func18, Try.ntmps18
  go_wp2
  go_loopw [7] (fun i wr => ∃ k : Nat, k ≤ n ∧ i = .int .i64 k ∧ Hid (mksB xs k = true) ∧ Hid (Below w.heap.size w wr)) (fun i _ => n - (intOf i).toNat)
  case atStart => exact ⟨0, Nat.zero_le _, rfl, rfl, Below.refl _ _⟩
  case round =>
    obtain ⟨k, hk, rfl, hM, hB⟩ := hrel
    by_cases hlt : k < n
    · obtain ⟨ad, x, y, rfl, hbx, hx, hc0, hc1⟩ := ((unhide HR).below (unhide hB)).get hlt
      have l1 : (k : Int) < (n : Int) := by omega
      have l2 : (0 : Int) ≤ (k : Int) := by omega
      have a0 := fun o : Obj => (World.cell?_alloc_lt wr o (ad.add (k * 2)) (by rw [block_of_add]; exact Nat.lt_of_lt_of_le hbx (unhide hB).size)).trans hc0
      have a1 := fun o : Obj => (World.cell?_alloc_lt wr o ⟨(ad.add (k * 2)).block, (ad.add (k * 2)).off + 1, none⟩ (by rw [block_of_add]; exact Nat.lt_of_lt_of_le hbx (unhide hB).size)).trans hc1
      rcases Nat.eq_zero_or_pos k with hk0 | hk0
      · subst hk0
        simp only [Nat.zero_mul, addr_add_zero] at hc0 hc1 a0 a1
        cases h1 : inB x 0 1000000
        · have h2 : inB y 0 1000000 = inB y 0 1000000 := rfl
          have HE : Hid (trkB xs = false) := trkB_no (k := 0) (by have := unhide HL; omega) (by rw [mkB_zero (unhide hx)]; rw [h1]; rfl)
          clear hx hM
          go_wp2
          go_quiet ((first | (go_at_call 60; first | exact Calls.quiet_of_same ((isTick_any x _).mono fun _ _ ⟨a, b⟩ => ⟨by rw [a, h1], b.symm⟩) | exact Calls.quiet_of_same ((isTick_any y _).mono fun _ _ ⟨a, b⟩ => ⟨by rw [a, h2], b.symm⟩))))
          go_wp2
          go_ret
          exact ⟨ret_bool (unhide HE).symm, below_drewN ((unhide hB).alloc (unhide hB).size _) _⟩
        · cases h2 : inB y 0 1000000
          · skip
            have HE : Hid (trkB xs = false) := trkB_no (k := 0) (by have := unhide HL; omega) (by rw [mkB_zero (unhide hx)]; rw [h1, h2]; rfl)
            clear hx hM
            go_wp2
            go_quiet ((first | (go_at_call 60; first | exact Calls.quiet_of_same ((isTick_any x _).mono fun _ _ ⟨a, b⟩ => ⟨by rw [a, h1], b.symm⟩) | exact Calls.quiet_of_same ((isTick_any y _).mono fun _ _ ⟨a, b⟩ => ⟨by rw [a, h2], b.symm⟩))))
            go_wp2
            go_ret
            exact ⟨ret_bool (unhide HE).symm, below_drewN ((unhide hB).alloc (unhide hB).size _) _⟩
          · skip
            have HE : Hid (mksB xs (0 + 1) = true) := mks_step (unhide hM) (by rw [mkB_zero (unhide hx), h1, h2]; rfl)
            clear hx hM
            go_wp2
            go_quiet ((first | (go_at_call 60; first | exact Calls.quiet_of_same ((isTick_any x _).mono fun _ _ ⟨a, b⟩ => ⟨by rw [a, h1], b.symm⟩) | exact Calls.quiet_of_same ((isTick_any y _).mono fun _ _ ⟨a, b⟩ => ⟨by rw [a, h2], b.symm⟩))))
            go_wp2
            go_roundw
            case rel => exact ⟨0 + 1, by omega, by go_num, HE, below_drewN ((unhide hB).alloc (unhide hB).size _) _⟩
            case measure => simp [intOf]; omega
      · obtain ⟨ad', x', y', had, _, hx', hd0, hd1⟩ := ((unhide HR).below (unhide hB)).get (show k - 1 < n by omega)
        obtain rfl := Option.some.inj had
        have b0 := fun o : Obj => (World.cell?_alloc_lt wr o (ad.add ((k - 1) * 2)) (by rw [block_of_add]; exact Nat.lt_of_lt_of_le hbx (unhide hB).size)).trans hd0
        have b1 := fun o : Obj => (World.cell?_alloc_lt wr o ⟨(ad.add ((k - 1) * 2)).block, (ad.add ((k - 1) * 2)).off + 1, none⟩ (by rw [block_of_add]; exact Nat.lt_of_lt_of_le hbx (unhide hB).size)).trans hd1
        have HX' := hide (unhide hx')
        clear hx' had
        have l3 : (k : Int) - 1 < (n : Int) := by omega
        have l4 : (1 : Int) ≤ (k : Int) := by omega
        have l5 : (0 : Int) ≤ (k : Int) - 1 := by omega
        have l6 : ((k : Int) - 1).toNat = k - 1 := by omega
        have l7 : (0 : Int) < (k : Int) := by omega
        have l8 : (k : Int) ≤ (n : Int) := by omega
        have s1 : IntKind.i64.wrap ((k : Int) - 1) = (k : Int) - 1 := IntWalk.i64_in _ (by omega)
        cases h1 : inB x 0 1000000
        · have h2 : inB y 0 1000000 = inB y 0 1000000 := rfl
          have HE : Hid (trkB xs = false) := trkB_no (k := k) (by have := unhide HL; omega) (by rw [mkB_next (unhide hx) hk0 (unhide HX')]; rw [h1]; rfl)
          clear hx hM
          go_wp2
          go_quiet ((first | (go_at_call 60; first | exact Calls.quiet_of_same ((isTick_any x _).mono fun _ _ ⟨a, b⟩ => ⟨by rw [a, h1], b.symm⟩) | exact Calls.quiet_of_same ((isTick_any y _).mono fun _ _ ⟨a, b⟩ => ⟨by rw [a, h2], b.symm⟩))))
          go_wp2
          go_ret
          exact ⟨ret_bool (unhide HE).symm, below_drewN ((unhide hB).alloc (unhide hB).size _) _⟩
        · cases h2 : inB y 0 1000000
          · skip
            have HE : Hid (trkB xs = false) := trkB_no (k := k) (by have := unhide HL; omega) (by rw [mkB_next (unhide hx) hk0 (unhide HX')]; rw [h1, h2]; rfl)
            clear hx hM
            go_wp2
            go_quiet ((first | (go_at_call 60; first | exact Calls.quiet_of_same ((isTick_any x _).mono fun _ _ ⟨a, b⟩ => ⟨by rw [a, h1], b.symm⟩) | exact Calls.quiet_of_same ((isTick_any y _).mono fun _ _ ⟨a, b⟩ => ⟨by rw [a, h2], b.symm⟩))))
            go_wp2
            go_ret
            exact ⟨ret_bool (unhide HE).symm, below_drewN ((unhide hB).alloc (unhide hB).size _) _⟩
          · skip
            cases h3 : decide (x' < x)
            · have t3 : decide (x ≤ x') = true := by have := of_decide_eq_false h3; exact decide_eq_true (by omega)
              have HE : Hid (trkB xs = false) := trkB_no (k := k) (by have := unhide HL; omega) (by rw [mkB_next (unhide hx) hk0 (unhide HX')]; rw [h3]; simp)
              clear hx hM
              go_wp2
              go_quiet ((first | (go_at_call 60; first | exact Calls.quiet_of_same ((isTick_any x _).mono fun _ _ ⟨a, b⟩ => ⟨by rw [a, h1], b.symm⟩) | exact Calls.quiet_of_same ((isTick_any y _).mono fun _ _ ⟨a, b⟩ => ⟨by rw [a, h2], b.symm⟩))))
              go_wp2
              go_ret
              exact ⟨ret_bool (unhide HE).symm, below_drewN ((unhide hB).alloc (unhide hB).size _) _⟩
            · have t3 : decide (x ≤ x') = false := by have := of_decide_eq_true h3; exact decide_eq_false (by omega)
              cases h4 : decide (y' < y)
              · have t4 : decide (y ≤ y') = true := by have := of_decide_eq_false h4; exact decide_eq_true (by omega)
                have HE : Hid (trkB xs = false) := trkB_no (k := k) (by have := unhide HL; omega) (by rw [mkB_next (unhide hx) hk0 (unhide HX')]; rw [h4]; simp)
                clear hx hM
                go_wp2
                go_quiet ((first | (go_at_call 60; first | exact Calls.quiet_of_same ((isTick_any x _).mono fun _ _ ⟨a, b⟩ => ⟨by rw [a, h1], b.symm⟩) | exact Calls.quiet_of_same ((isTick_any y _).mono fun _ _ ⟨a, b⟩ => ⟨by rw [a, h2], b.symm⟩))))
                go_wp2
                go_ret
                exact ⟨ret_bool (unhide HE).symm, below_drewN ((unhide hB).alloc (unhide hB).size _) _⟩
              · have t4 : decide (y ≤ y') = false := by have := of_decide_eq_true h4; exact decide_eq_false (by omega)
                have HE : Hid (mksB xs (k + 1) = true) := mks_step (unhide hM) (by rw [mkB_next (unhide hx) hk0 (unhide HX'), h1, h2, h3, h4]; rfl)
                clear hx hM
                go_wp2
                go_quiet ((first | (go_at_call 60; first | exact Calls.quiet_of_same ((isTick_any x _).mono fun _ _ ⟨a, b⟩ => ⟨by rw [a, h1], b.symm⟩) | exact Calls.quiet_of_same ((isTick_any y _).mono fun _ _ ⟨a, b⟩ => ⟨by rw [a, h2], b.symm⟩))))
                go_wp2
                go_roundw
                case rel => exact ⟨k + 1, by omega, by go_num, HE, below_drewN ((unhide hB).alloc (unhide hB).size _) _⟩
                case measure => simp [intOf]; omega
    · have e : k = n := by omega
      subst e
      have HE : Hid (trkB xs = inB k 2 10) := by
        have := unhide hM
        unfold Hid trkB
        rw [unhide HL, this, Bool.true_and]
      clear hM
      go_wp2_with (go_at_call 61; refine (in_any _ _ _ _).mono ?_; rintro e w' ⟨rfl, rfl⟩)
      go_ret
      exact ⟨ret_bool (unhide HE).symm, unhide hB⟩

set_option maxHeartbeats 4000000 in
set_option maxRecDepth 100000 in
theorem l5Good_any (A : Option Addr) (n c : Nat) (xs : List (Int × Int)) (w : World) (hr : RP w w.heap.size A n xs) (hn : n ≤ 9223372036854775807) :
    Calls Try.prog 59 #[.slice A n c] w fun e w' => e = .returned (.bool (trkB xs)) ∧ Below w.heap.size w w' := by
  have HR := hide hr
  have HL := hide hr.len
  clear hr
  go_enter Try.func59, Try.ntmps59
  go_wp2
  go_loopw [3] (fun i wr => ∃ k : Nat, k ≤ n ∧ i = .int .i64 k ∧ Hid (mksB xs k = true) ∧ Hid (Below w.heap.size w wr)) (fun i _ => n - (intOf i).toNat)
  case atStart => exact ⟨0, Nat.zero_le _, rfl, rfl, Below.refl _ _⟩
  case round =>
    obtain ⟨k, hk, rfl, hM, hB⟩ := hrel
    by_cases hlt : k < n
    · obtain ⟨ad, x, y, rfl, hbx, hx, hc0, hc1⟩ := ((unhide HR).below (unhide hB)).get hlt
      have l1 : (k : Int) < (n : Int) := by omega
      have l2 : (0 : Int) ≤ (k : Int) := by omega
      rcases Nat.eq_zero_or_pos k with hk0 | hk0
      · subst hk0
        simp only [Nat.zero_mul, addr_add_zero] at hc0 hc1
        cases h1 : inB x 0 1000000
        · have h2 : inB y 0 1000000 = inB y 0 1000000 := rfl
          have HE : Hid (trkB xs = false) := trkB_no (k := 0) (by have := unhide HL; omega) (by rw [mkB_zero (unhide hx)]; rw [h1]; rfl)
          clear hx hM
          go_wp2
          go_quiet ((first | (go_at_call 63; first | exact Calls.quiet_of_same ((l2Tick_any x _).mono fun _ _ ⟨a, b⟩ => ⟨by rw [a, h1], b.symm⟩) | exact Calls.quiet_of_same ((l2Tick_any y _).mono fun _ _ ⟨a, b⟩ => ⟨by rw [a, h2], b.symm⟩))))
          go_wp2
          go_ret
          exact ⟨ret_bool (unhide HE).symm, below_drewN (unhide hB) _⟩
        · cases h2 : inB y 0 1000000
          · skip
            have HE : Hid (trkB xs = false) := trkB_no (k := 0) (by have := unhide HL; omega) (by rw [mkB_zero (unhide hx)]; rw [h1, h2]; rfl)
            clear hx hM
            go_wp2
            go_quiet ((first | (go_at_call 63; first | exact Calls.quiet_of_same ((l2Tick_any x _).mono fun _ _ ⟨a, b⟩ => ⟨by rw [a, h1], b.symm⟩) | exact Calls.quiet_of_same ((l2Tick_any y _).mono fun _ _ ⟨a, b⟩ => ⟨by rw [a, h2], b.symm⟩))))
            go_wp2
            go_ret
            exact ⟨ret_bool (unhide HE).symm, below_drewN (unhide hB) _⟩
          · skip
            have HE : Hid (mksB xs (0 + 1) = true) := mks_step (unhide hM) (by rw [mkB_zero (unhide hx), h1, h2]; rfl)
            clear hx hM
            go_wp2
            go_quiet ((first | (go_at_call 63; first | exact Calls.quiet_of_same ((l2Tick_any x _).mono fun _ _ ⟨a, b⟩ => ⟨by rw [a, h1], b.symm⟩) | exact Calls.quiet_of_same ((l2Tick_any y _).mono fun _ _ ⟨a, b⟩ => ⟨by rw [a, h2], b.symm⟩))))
            go_wp2
            go_roundw
            case rel => exact ⟨0 + 1, by omega, by go_num, HE, below_drewN (unhide hB) _⟩
            case measure => simp [intOf]; omega
      · obtain ⟨ad', x', y', had, _, hx', hd0, hd1⟩ := ((unhide HR).below (unhide hB)).get (show k - 1 < n by omega)
        obtain rfl := Option.some.inj had
        have HX' := hide (unhide hx')
        clear hx' had
        have l3 : (k : Int) - 1 < (n : Int) := by omega
        have l4 : (1 : Int) ≤ (k : Int) := by omega
        have l5 : (0 : Int) ≤ (k : Int) - 1 := by omega
        have l6 : ((k : Int) - 1).toNat = k - 1 := by omega
        have l7 : (0 : Int) < (k : Int) := by omega
        have l8 : (k : Int) ≤ (n : Int) := by omega
        have s1 : IntKind.i64.wrap ((k : Int) - 1) = (k : Int) - 1 := IntWalk.i64_in _ (by omega)
        cases h1 : inB x 0 1000000
        · have h2 : inB y 0 1000000 = inB y 0 1000000 := rfl
          have HE : Hid (trkB xs = false) := trkB_no (k := k) (by have := unhide HL; omega) (by rw [mkB_next (unhide hx) hk0 (unhide HX')]; rw [h1]; rfl)
          clear hx hM
          go_wp2
          go_quiet ((first | (go_at_call 63; first | exact Calls.quiet_of_same ((l2Tick_any x _).mono fun _ _ ⟨a, b⟩ => ⟨by rw [a, h1], b.symm⟩) | exact Calls.quiet_of_same ((l2Tick_any y _).mono fun _ _ ⟨a, b⟩ => ⟨by rw [a, h2], b.symm⟩))))
          go_wp2
          go_ret
          exact ⟨ret_bool (unhide HE).symm, below_drewN (unhide hB) _⟩
        · cases h2 : inB y 0 1000000
          · skip
            have HE : Hid (trkB xs = false) := trkB_no (k := k) (by have := unhide HL; omega) (by rw [mkB_next (unhide hx) hk0 (unhide HX')]; rw [h1, h2]; rfl)
            clear hx hM
            go_wp2
            go_quiet ((first | (go_at_call 63; first | exact Calls.quiet_of_same ((l2Tick_any x _).mono fun _ _ ⟨a, b⟩ => ⟨by rw [a, h1], b.symm⟩) | exact Calls.quiet_of_same ((l2Tick_any y _).mono fun _ _ ⟨a, b⟩ => ⟨by rw [a, h2], b.symm⟩))))
            go_wp2
            go_ret
            exact ⟨ret_bool (unhide HE).symm, below_drewN (unhide hB) _⟩
          · skip
            cases h3 : decide (x' < x)
            · have t3 : decide (x ≤ x') = true := by have := of_decide_eq_false h3; exact decide_eq_true (by omega)
              have HE : Hid (trkB xs = false) := trkB_no (k := k) (by have := unhide HL; omega) (by rw [mkB_next (unhide hx) hk0 (unhide HX')]; rw [h3]; simp)
              clear hx hM
              go_wp2
              go_quiet ((first | (go_at_call 63; first | exact Calls.quiet_of_same ((l2Tick_any x _).mono fun _ _ ⟨a, b⟩ => ⟨by rw [a, h1], b.symm⟩) | exact Calls.quiet_of_same ((l2Tick_any y _).mono fun _ _ ⟨a, b⟩ => ⟨by rw [a, h2], b.symm⟩))))
              go_wp2
              go_ret
              exact ⟨ret_bool (unhide HE).symm, below_drewN (unhide hB) _⟩
            · have t3 : decide (x ≤ x') = false := by have := of_decide_eq_true h3; exact decide_eq_false (by omega)
              cases h4 : decide (y' < y)
              · have t4 : decide (y ≤ y') = true := by have := of_decide_eq_false h4; exact decide_eq_true (by omega)
                have HE : Hid (trkB xs = false) := trkB_no (k := k) (by have := unhide HL; omega) (by rw [mkB_next (unhide hx) hk0 (unhide HX')]; rw [h4]; simp)
                clear hx hM
                go_wp2
                go_quiet ((first | (go_at_call 63; first | exact Calls.quiet_of_same ((l2Tick_any x _).mono fun _ _ ⟨a, b⟩ => ⟨by rw [a, h1], b.symm⟩) | exact Calls.quiet_of_same ((l2Tick_any y _).mono fun _ _ ⟨a, b⟩ => ⟨by rw [a, h2], b.symm⟩))))
                go_wp2
                go_ret
                exact ⟨ret_bool (unhide HE).symm, below_drewN (unhide hB) _⟩
              · have t4 : decide (y ≤ y') = false := by have := of_decide_eq_true h4; exact decide_eq_false (by omega)
                have HE : Hid (mksB xs (k + 1) = true) := mks_step (unhide hM) (by rw [mkB_next (unhide hx) hk0 (unhide HX'), h1, h2, h3, h4]; rfl)
                clear hx hM
                go_wp2
                go_quiet ((first | (go_at_call 63; first | exact Calls.quiet_of_same ((l2Tick_any x _).mono fun _ _ ⟨a, b⟩ => ⟨by rw [a, h1], b.symm⟩) | exact Calls.quiet_of_same ((l2Tick_any y _).mono fun _ _ ⟨a, b⟩ => ⟨by rw [a, h2], b.symm⟩))))
                go_wp2
                go_roundw
                case rel => exact ⟨k + 1, by omega, by go_num, HE, below_drewN (unhide hB) _⟩
                case measure => simp [intOf]; omega
    · have e : k = n := by omega
      subst e
      have HE : Hid (trkB xs = inB k 2 10) := by
        have := unhide hM
        unfold Hid trkB
        rw [unhide HL, this, Bool.true_and]
      clear hM
      go_wp2_with (go_at_call 74; refine (l1In_any _ _ _ _).mono ?_; rintro e w' ⟨rfl, rfl⟩)
      go_ret
      exact ⟨ret_bool (unhide HE).symm, unhide hB⟩

theorem specIsTrack_any (A : Option Addr) (n c : Nat) (xs : List (Int × Int)) (w : World) (hr : RP w w.heap.size A n xs) (hn : n ≤ 9223372036854775807) :
    Calls Try.prog 16 #[.slice A n c] w fun e w' => e = .returned (.bool (trkB xs)) ∧ Below w.heap.size w w' := by
  have HS := hide (l5Good_any A n c xs w hr hn)
  clear hr
  go_enter Try.func16, Try.ntmps16
  go_wp2_with (go_at_call 59; refine (unhide HS).mono ?_; rintro e w1 ⟨rfl, hb⟩; have HB := hide hb; clear hb)
  go_ret
  exact ⟨rfl, unhide HB⟩
end Go.Proofs.Ytmpgafanlgnpeaa
