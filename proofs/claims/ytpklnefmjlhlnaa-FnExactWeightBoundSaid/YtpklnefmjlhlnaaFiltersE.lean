/- The walks of chapter 6: a bound of weighted sums, turning points: the program's and the reference's. -/
import Derived.Test.YtpklnefmjlhlnaaProg
import Derived.Test.YtpklnefmjlhlnaaFiltersD
namespace Go.Proofs.Ytpklnefmjlhlnaa
open Go.RowKit

/-! ### weights -/
/-- one to five numbers from -100 to 100 -/
def wtB (xs : List Int) : Bool := inB xs.length 1 5 && xs.all fun x => inB x (-100) 100
theorem wtB_range {xs : List Int} (h : wtB xs = true) {k : Nat} {x : Int} (hx : xs[k]? = some x) : -100 ≤ x ∧ x ≤ 100 := by
  unfold wtB at h
  simp only [Bool.and_eq_true, List.all_eq_true] at h
  exact inB_iff.1 (h.2 x (List.mem_of_getElem? hx))
theorem wtB_len {xs : List Int} (h : wtB xs = true) : xs.length ≤ 5 := by
  unfold wtB at h
  simp only [Bool.and_eq_true] at h
  have := inB_iff.1 h.1
  omega
/-- the sum of the numbers without their signs -/
def absSum (xs : List Int) : Int := (xs.map fun x => max x (-x)).sum
theorem absSum_step (xs : List Int) (k : Nat) (x : Int) (hx : xs[k]? = some x) : absSum (xs.take (k + 1)) = absSum (xs.take k) + max x (-x) := by
  unfold absSum
  rw [List.take_add_one, hx, List.map_append, List.sum_append]
  simp

theorem areWeights1_pred (w : World) : PredI 38 #[] (fun n => inB n (-100) 100) w := fun W x _ => by
  show Calls _ _ #[.int .i64 x] W (fun e w' => e = .returned (.bool (inB x (-100) 100)) ∧ Below W.heap.size W w')
  go_enter Try.func38, Try.ntmps38
  go_wp2_with (go_at_call 26; refine (in_any _ _ _ _).mono ?_; rintro e w' ⟨rfl, rfl⟩)
  go_ret
  exact ⟨rfl, Below.refl _ _⟩

theorem areWeights_any (A : Option Addr) (n c : Nat) (xs : List Int) (w : World) (hr : RI w w.heap.size A n xs) (hn : n ≤ 9223372036854775807) :
    Calls Try.prog 32 #[.slice A n c] w fun e w' => e = .returned (.bool (wtB xs)) ∧ Below w.heap.size w w' := by
  have C := all_int 38 #[] _ (enters_of Try.func38 (by kernel_rfl) rfl) A n c xs w (areWeights1_pred w) hr hn
  have hl := hr.len
  unfold wtB
  rw [hl]
  generalize (xs.all fun x => inB x (-100) 100) = r at *
  have HC := hide C
  clear C hr hl
  cases h : inB (n : Int) 1 5
  all_goals
    go_enter Try.func32, Try.ntmps32
    go_wp2_with (first
      | (go_at_call 26; refine (in_any _ _ _ _).mono ?_; rintro e w1 ⟨rfl, rfl⟩)
      | (go_at_call 36; refine (unhide HC).mono ?_; rintro e w' ⟨rfl, hb⟩))
    go_ret
    first
      | exact ⟨ret_bool (by simp), Below.refl _ _⟩
      | exact ⟨ret_bool (by simp), hb⟩

set_option maxHeartbeats 400000 in
theorem l6Weights_any (A : Option Addr) (n c L : Nat) (xs : List Int) (w : World) (hr : RI w L A n xs) (hn : n ≤ 9223372036854775807) :
    Calls Try.prog 30 #[.slice A n c] w fun e w' => e = .returned (.bool (wtB xs)) ∧ w = w' := by
  have HR := hide hr; clear hr
  go_enter Try.func30, Try.ntmps30
  go_wp2
  go_loop [3] (fun i => ∃ k : Nat, k ≤ n ∧ i = .int .i64 k ∧ Hid ((xs.take k).all (fun x => inB x (-100) 100) = true)) (fun i => n - (intOf i).toNat)
  case atStart => exact ⟨0, Nat.zero_le _, rfl, by simp [Hid]⟩
  case round =>
    obtain ⟨k, hk, rfl, hA⟩ := hrel
    by_cases hlt : k < n
    · obtain ⟨ad, x, rfl, _, hx, hc⟩ := (unhide HR).get hlt
      cases hq : inB x (-100) 100 with
      | true =>
        have HE := hide (take_all_step (fun x => inB x (-100) 100) xs k x (unhide hx) (unhide hA) hq)
        clear hx hA
        go_wp2_with (go_at_call 35; refine (l1In_any _ _ _ _).mono ?_; rintro e w' ⟨rfl, rfl⟩)
        go_round
        case rel => exact ⟨k + 1, by omega, by go_num, HE⟩
        case measure => simp [intOf]; omega
      | false =>
        have HE := hide (all_no (fun x => inB x (-100) 100) xs k x (unhide hx) hq)
        clear hx hA
        go_wp2_with (go_at_call 35; refine (l1In_any _ _ _ _).mono ?_; rintro e w' ⟨rfl, rfl⟩)
        go_ret
        exact ⟨ret_bool (by unfold wtB; rw [unhide HE]; simp), rfl⟩
    · have e : k = n := by omega
      subst e
      have HE : Hid (wtB xs = inB k 1 5) := by
        have := unhide hA
        have hl := (unhide HR).len
        rw [List.take_of_length_le (by omega)] at this
        unfold Hid wtB
        rw [this, hl]
        simp
      clear hA
      go_wp2_with (go_at_call 35; refine (l1In_any _ _ _ _).mono ?_; rintro e w' ⟨rfl, rfl⟩)
      go_ret
      exact ⟨ret_bool (unhide HE).symm, rfl⟩

/-- what both hand back -/
def RetNB (w : World) (r : Int) (b : Bool) (e : Ending) (w' : World) : Prop := e = .returned (.tuple #[.int .i64 r, .bool b]) ∧ Below w.heap.size w w'

set_option maxHeartbeats 400000 in
theorem specWeightBound_any (A : Option Addr) (n c : Nat) (xs : List Int) (w : World) (hr : RI w w.heap.size A n xs) (hn : n ≤ 1048576) :
    Calls Try.prog 18 #[.slice A n c] w (RetNB w (if wtB xs then 100000 * absSum xs else 0) (wtB xs)) := by
  have HA := hide (l6Weights_any A n c _ xs w hr (by omega))
  have HR := hide hr
  clear hr
  cases h1 : wtB xs
  · go_enter Try.func18, Try.ntmps18
    go_wp2_with (go_at_call 30; refine (unhide HA).mono ?_; rintro e w1 ⟨rfl, rfl⟩)
    go_ret2
    exact ⟨rfl, Below.refl _ _⟩
  · have HW := hide h1
    have hn5 : n ≤ 5 := by have := wtB_len h1; have := (unhide HR).len; omega
    go_enter Try.func18, Try.ntmps18
    go_wp2_with (go_at_call 30; refine (unhide HA).mono ?_; rintro e w1 ⟨rfl, rfl⟩)
    go_loop [4, 5] (fun t i => ∃ (k : Nat) (s : Int), k ≤ n ∧ i = .int .i64 k ∧ t = .int .i64 s ∧ 0 ≤ s ∧ s ≤ 100 * k ∧ Hid (s = absSum (xs.take k))) (fun _ i => n - (intOf i).toNat)
    case atStart => exact ⟨0, 0, Nat.zero_le _, rfl, rfl, by omega, by omega, by simp [Hid, absSum]⟩
    case round =>
      obtain ⟨k, s, hk, rfl, rfl, hs0, hs1, hS⟩ := hrel
      by_cases hlt : k < n
      · obtain ⟨ad, x, rfl, _, hx, hc⟩ := (unhide HR).get hlt
        obtain ⟨hx1, hx2⟩ := wtB_range (unhide HW) (unhide hx)
        have HE : Hid (s + max x (-x) = absSum (xs.take (k + 1))) := by unfold Hid; rw [absSum_step xs k x (unhide hx), unhide hS]
        clear hx hS
        have m0 : 0 ≤ max x (-x) := by omega
        have m1 : max x (-x) ≤ 100 := by omega
        have C := fun W => l2Size_any x W (by omega) (by omega)
        generalize max x (-x) = y at *
        have HC := hide C
        clear C
        go_wp2_with (go_at_call 31; refine (unhide HC _).mono ?_; rintro e w1 ⟨rfl, rfl⟩)
        go_round
        case rel => exact ⟨k + 1, s + y, by omega, by go_num, rfl, by omega, by omega, HE⟩
        case measure => simp [intOf]; omega
      · have e : k = n := by omega
        subst e
        have HE : Hid (absSum xs = s) := by
          have := unhide hS
          rw [List.take_of_length_le (by rw [(unhide HR).len]; exact Nat.le_refl _)] at this
          exact this.symm
        clear hS
        go_wp2
        go_ret2
        rw [unhide HE]
        exact ⟨rfl, Below.refl _ _⟩

set_option maxHeartbeats 400000 in
theorem implWeightBound_any (A : Option Addr) (n c : Nat) (xs : List Int) (w : World) (hr : RI w w.heap.size A n xs) (hn : n ≤ 1048576) :
    Calls Try.prog 19 #[.slice A n c] w (RetNB w (if wtB xs then 100000 * absSum xs else 0) (wtB xs)) := by
  have HA := hide (areWeights_any A n c xs w hr (by omega))
  have HR := hide hr
  clear hr
  cases h1 : wtB xs
  · go_enter Try.func19, Try.ntmps19
    go_wp2_with (go_at_call 32; refine (unhide HA).mono ?_; rintro e w1 ⟨rfl, hb⟩; have HB := hide hb; clear hb)
    go_ret2
    exact ⟨rfl, unhide HB⟩
  · have HW := hide h1
    have hn5 : n ≤ 5 := by have := wtB_len h1; have := (unhide HR).len; omega
    go_enter Try.func19, Try.ntmps19
    go_wp2_with (go_at_call 32; refine (unhide HA).mono ?_; rintro e w1 ⟨rfl, hb⟩; have HB := hide hb; clear hb)
    go_loop [4, 12] (fun t i => ∃ (k : Nat) (s : Int), k ≤ n ∧ i = .int .i64 k ∧ t = .int .i64 s ∧ 0 ≤ s ∧ s ≤ 100 * k ∧ Hid (s = absSum (xs.take k))) (fun _ i => n - (intOf i).toNat)
    case atStart => exact ⟨0, 0, Nat.zero_le _, rfl, rfl, by omega, by omega, by simp [Hid, absSum]⟩
    case round =>
      obtain ⟨k, s, hk, rfl, rfl, hs0, hs1, hS⟩ := hrel
      by_cases hlt : k < n
      · obtain ⟨ad, x, rfl, _, hx, hc⟩ := ((unhide HR).below (unhide HB)).get hlt
        obtain ⟨hx1, hx2⟩ := wtB_range (unhide HW) (unhide hx)
        have HE : Hid (s + max x (-x) = absSum (xs.take (k + 1))) := by unfold Hid; rw [absSum_step xs k x (unhide hx), unhide hS]
        clear hx hS
        have m0 : 0 ≤ max x (-x) := by omega
        have m1 : max x (-x) ≤ 100 := by omega
        have C := fun W => abs_any x W (by omega) (by omega)
        generalize max x (-x) = y at *
        have HC := hide C
        clear C
        go_wp2_with (go_at_call 33; refine (unhide HC _).mono ?_; rintro e w1 ⟨rfl, rfl⟩)
        go_round
        case rel => exact ⟨k + 1, s + y, by omega, by go_num, rfl, by omega, by omega, HE⟩
        case measure => simp [intOf]; omega
      · have e : k = n := by omega
        subst e
        have HE : Hid (absSum xs = s) := by
          have := unhide hS
          rw [List.take_of_length_le (by rw [(unhide HR).len]; exact Nat.le_refl _)] at this
          exact this.symm
        clear hS
        go_wp2
        go_ret2
        rw [unhide HE]
        exact ⟨rfl, unhide HB⟩

/-! ### turning points -/
def turnB (a x b : Int) : Bool := (decide (a < x) && decide (b < x)) || (decide (x < a) && decide (x < b))
/-- the places from 1 below k at which the samples turn -/
def turnsI (xs : List Int) (k : Nat) : List Int := ((List.range k).filter fun i => decide (1 ≤ i) && turnB (xs.getD (i - 1) 0) (xs.getD i 0) (xs.getD (i + 1) 0)).map fun (i : Nat) => (i : Int)
theorem turns_hit (xs : List Int) (k : Nat) (a x b : Int) (hk : 1 ≤ k) (ha : xs[k - 1]? = some a) (hx : xs[k]? = some x) (hb : xs[k + 1]? = some b) (h : turnB a x b = true) : turnsI xs (k + 1) = turnsI xs k ++ [(k : Int)] := by
  unfold turnsI
  rw [List.range_succ, List.filter_append, List.map_append, List.filter_cons, List.filter_nil, getD_of ha, getD_of hx, getD_of hb, h]
  simp [hk]
theorem turns_miss (xs : List Int) (k : Nat) (a x b : Int) (ha : xs[k - 1]? = some a) (hx : xs[k]? = some x) (hb : xs[k + 1]? = some b) (h : turnB a x b = false) : turnsI xs (k + 1) = turnsI xs k := by
  unfold turnsI
  rw [List.range_succ, List.filter_append, List.map_append, List.filter_cons, List.filter_nil, getD_of ha, getD_of hx, getD_of hb, h]
  simp
theorem turns_len (xs : List Int) (k : Nat) : (turnsI xs k).length ≤ k := by
  unfold turnsI
  rw [List.length_map]
  have := List.length_filter_le (fun i => decide (1 ≤ i) && turnB (xs.getD (i - 1) 0) (xs.getD i 0) (xs.getD (i + 1) 0)) (List.range k)
  simpa using this
theorem turns_one (xs : List Int) : turnsI xs 1 = [] := by simp [turnsI, List.range_succ]
def turnEnd (xs : List Int) : List Int := turnsI xs (max 1 (xs.length - 1))

set_option maxHeartbeats 2000000 in
theorem specTurningPoints_any (A : Option Addr) (n c : Nat) (xs : List Int) (w : World) (hr : RI w w.heap.size A n xs) (hn : n ≤ 1048576) :
    Calls Try.prog 20 #[.slice A n c] w (RetIB w (if smpB xs then turnEnd xs else []) (smpB xs)) := by
  have R0 := hr.alloc (Nat.le_refl _) (.cells #[] 3)
  have HA := hide (l2Samples_any A n c _ xs _ R0 (by omega))
  have HR := hide hr
  clear R0 hr
  cases h1 : smpB xs
  · go_enter Try.func20, Try.ntmps20
    go_wp2_with (go_at_call 34; refine (unhide HA).mono ?_; rintro e w1 ⟨rfl, rfl⟩)
    go_ret2
    exact ⟨_, _, _, rfl, OwnI.empty _ (Nat.le_refl _), (Below.refl _ _).alloc (Nat.le_refl _) _⟩
  · go_enter Try.func20, Try.ntmps20
    go_wp2_with (go_at_call 34; refine (unhide HA).mono ?_; rintro e w1 ⟨rfl, rfl⟩)
    go_loopw [4, 5] (fun v i wr => ∃ (k m : Nat) (A' : Option Addr) (c' : Nat), 1 ≤ k ∧ k ≤ max 1 (n - 1) ∧ m ≤ k ∧ i = .int .i64 k ∧ v = .slice A' m c' ∧ Hid (OwnI wr w.heap.size A' m c' (turnsI xs k)) ∧ Hid (Below w.heap.size w wr)) (fun _ i _ => n - (intOf i).toNat)
    case atStart => exact ⟨1, 0, _, _, by omega, by omega, by omega, rfl, rfl, by rw [turns_one]; exact OwnI.empty _ (Nat.le_refl _), (Below.refl _ _).alloc (Nat.le_refl _) _⟩
    case round =>
      obtain ⟨k, m, A', c', hk0, hk, hmk, rfl, rfl, hO, hB⟩ := hrel
      by_cases hlt : k + 1 < n
      · obtain ⟨ad, x, rfl, _, hx, hc⟩ := ((unhide HR).below (unhide hB)).get (show k < n by omega)
        obtain ⟨ae, a, had, _, ha, hca⟩ := ((unhide HR).below (unhide hB)).get (show k - 1 < n by omega)
        obtain rfl : ad = ae := by simpa using had
        obtain ⟨ae, b, had2, _, hb, hcb⟩ := ((unhide HR).below (unhide hB)).get (show k + 1 < n by omega)
        obtain rfl : ad = ae := by simpa using had2
        have HH := hide (turns_hit xs k a x b hk0 (unhide ha) (unhide hx) (unhide hb))
        have HM := hide (turns_miss xs k a x b (unhide ha) (unhide hx) (unhide hb))
        have hl1 : (k : Int) < (n : Int) := by omega
        have hl2 : (k : Int) - 1 < (n : Int) := by omega
        have hl3 : 0 ≤ (k : Int) - 1 := by omega
        have hl4 : (k : Int) + 1 < (n : Int) := by omega
        have hcb2 : wr.cell? ⟨ad.block, ad.off + (k + 1), none⟩ = some (.int .i64 b) := by simpa [Addr.add] using hcb
        have hl8 : (0 : Int) ≤ (k : Int) + 1 := by omega
        have hl5 : (1 : Int) ≤ (k : Int) := by omega
        have hl6 : (k : Int) ≤ (n : Int) := by omega
        have hl7 : (k : Int) < (n : Int) + 1 := by omega
        have e3 : ((k : Int) - 1).toNat = k - 1 := by omega
        have e4 : ((k : Int) + 1).toNat = k + 1 := by omega
        clear hx ha hb had had2
        have ways : turnB a x b = true ∧ a < x ∧ b < x ∨ turnB a x b = true ∧ x < a ∧ x < b ∨ turnB a x b = false ∧ a < x ∧ x ≤ b ∨ turnB a x b = false ∧ x < a ∧ b ≤ x ∨ turnB a x b = false ∧ x = a := by
          have hd : turnB a x b = ((decide (a < x) && decide (b < x)) || (decide (x < a) && decide (x < b))) := rfl
          rw [hd]
          by_cases h1 : a < x <;> by_cases h2 : b < x <;> by_cases h3 : x < a <;> by_cases h4 : x < b <;> simp [h1, h2, h3, h4] <;> omega
        rcases ways with ⟨ht, w1, w2⟩ | ⟨ht, w1, w2⟩ | ⟨ht, w1, w2⟩ | ⟨ht, w1, w2⟩ | ⟨ht, w1⟩
        · have HT := hide (unhide HH ht); clear HH HM ht
          go_wp2
          have s1 : IntKind.i64.wrap ((k : Int) - 1) = (k : Int) - 1 := IntWalk.i64_in _ (by omega)
          have s2 : IntKind.i64.wrap ((k : Int) + 1) = (k : Int) + 1 := IntWalk.i64_in _ (by omega)
          go_quiet (fail)
          clear s1 s2 e3 e4
          go_wp2_with (at_builtin; refine append_int _ rfl _ _ rfl w A' m c' (turnsI xs k) rfl ((OwnI.below (unhide hO) (below_drewN (Below.refl _ _) _) (Nat.le_refl _)).alloc _) ((below_drewN (unhide hB) _).alloc (unhide hB).size _) _ k rfl (cellNew _ _ _) (by omega) ?_; intro A2 c2 w2 hO2 hB2)
          rw [← unhide HT] at hO2
          have HO2 := hide hO2
          have HB2 := hide hB2
          clear hO2 hB2 hO hB HT
          go_wp2
          go_roundw
          case rel => exact ⟨k + 1, m + 1, A2, c2, by omega, by omega, by omega, by go_num, rfl, HO2, HB2⟩
          case measure => simp [intOf]; omega
        · have HT := hide (unhide HH ht); clear HH HM ht
          go_wp2
          have s1 : IntKind.i64.wrap ((k : Int) - 1) = (k : Int) - 1 := IntWalk.i64_in _ (by omega)
          have s2 : IntKind.i64.wrap ((k : Int) + 1) = (k : Int) + 1 := IntWalk.i64_in _ (by omega)
          go_quiet (fail)
          clear s1 s2 e3 e4
          go_wp2_with (at_builtin; refine append_int _ rfl _ _ rfl w A' m c' (turnsI xs k) rfl ((OwnI.below (unhide hO) (below_drewN (Below.refl _ _) _) (Nat.le_refl _)).alloc _) ((below_drewN (unhide hB) _).alloc (unhide hB).size _) _ k rfl (cellNew _ _ _) (by omega) ?_; intro A2 c2 w2 hO2 hB2)
          rw [← unhide HT] at hO2
          have HO2 := hide hO2
          have HB2 := hide hB2
          clear hO2 hB2 hO hB HT
          go_wp2
          go_roundw
          case rel => exact ⟨k + 1, m + 1, A2, c2, by omega, by omega, by omega, by go_num, rfl, HO2, HB2⟩
          case measure => simp [intOf]; omega
        · have HT := hide (unhide HM ht); clear HH HM ht
          have HO2 : Hid (∀ q, OwnI (wr.drewN q) w.heap.size A' m c' (turnsI xs (k + 1))) := fun q => by
            rw [unhide HT]
            exact OwnI.below (unhide hO) (below_drewN (Below.refl _ _) _) (Nat.le_refl _)
          clear hO HT
          go_wp2
          have s1 : IntKind.i64.wrap ((k : Int) - 1) = (k : Int) - 1 := IntWalk.i64_in _ (by omega)
          have s2 : IntKind.i64.wrap ((k : Int) + 1) = (k : Int) + 1 := IntWalk.i64_in _ (by omega)
          go_quiet (fail)
          clear s1 s2 e3 e4
          go_wp2
          go_roundw
          case rel => exact ⟨k + 1, m, A', c', by omega, by omega, by omega, by go_num, rfl, unhide HO2 _, below_drewN (unhide hB) _⟩
          case measure => simp [intOf]; omega
        · have HT := hide (unhide HM ht); clear HH HM ht
          have HO2 : Hid (∀ q, OwnI (wr.drewN q) w.heap.size A' m c' (turnsI xs (k + 1))) := fun q => by
            rw [unhide HT]
            exact OwnI.below (unhide hO) (below_drewN (Below.refl _ _) _) (Nat.le_refl _)
          clear hO HT
          go_wp2
          have s1 : IntKind.i64.wrap ((k : Int) - 1) = (k : Int) - 1 := IntWalk.i64_in _ (by omega)
          have s2 : IntKind.i64.wrap ((k : Int) + 1) = (k : Int) + 1 := IntWalk.i64_in _ (by omega)
          go_quiet (fail)
          clear s1 s2 e3 e4
          go_wp2
          go_roundw
          case rel => exact ⟨k + 1, m, A', c', by omega, by omega, by omega, by go_num, rfl, unhide HO2 _, below_drewN (unhide hB) _⟩
          case measure => simp [intOf]; omega
        · have HT := hide (unhide HM ht); clear HH HM ht
          subst w1
          have HO2 : Hid (∀ q, OwnI (wr.drewN q) w.heap.size A' m c' (turnsI xs (k + 1))) := fun q => by
            rw [unhide HT]
            exact OwnI.below (unhide hO) (below_drewN (Below.refl _ _) _) (Nat.le_refl _)
          clear hO HT
          go_wp2
          have s1 : IntKind.i64.wrap ((k : Int) - 1) = (k : Int) - 1 := IntWalk.i64_in _ (by omega)
          have s2 : IntKind.i64.wrap ((k : Int) + 1) = (k : Int) + 1 := IntWalk.i64_in _ (by omega)
          go_quiet (fail)
          clear s1 s2 e3 e4
          go_wp2
          go_roundw
          case rel => exact ⟨k + 1, m, A', c', by omega, by omega, by omega, by go_num, rfl, unhide HO2 _, below_drewN (unhide hB) _⟩
          case measure => simp [intOf]; omega
      · have HE : Hid (turnEnd xs = turnsI xs k) := by
          unfold Hid turnEnd
          rw [(unhide HR).len]
          congr 1
          omega
        go_wp2
        go_ret2
        rw [unhide HE]
        exact ⟨A', m, c', rfl, unhide hO, unhide hB⟩

set_option maxHeartbeats 2000000 in
theorem implTurningPoints_any (A : Option Addr) (n c : Nat) (xs : List Int) (w : World) (hr : RI w w.heap.size A n xs) (hn : n ≤ 1048576) :
    Calls Try.prog 21 #[.slice A n c] w (RetIB w (if smpB xs then turnEnd xs else []) (smpB xs)) := by
  have HA := hide (areSamples_any A n c xs _ hr (by omega))
  have HR := hide hr
  clear hr
  cases h1 : smpB xs
  · go_enter Try.func21, Try.ntmps21
    go_wp2_with (go_at_call 25; refine (unhide HA).mono ?_; rintro e w1 ⟨rfl, hb⟩; have HB := hide hb; clear hb)
    go_ret2
    exact ⟨none, 0, 0, rfl, OwnI.nil _ _, unhide HB⟩
  · go_enter Try.func21, Try.ntmps21
    go_wp2_with (go_at_call 25; refine (unhide HA).mono ?_; rintro e w1 ⟨rfl, hb⟩; have HB := hide hb; clear hb)
    go_loopw [4, 5] (fun v i wr => ∃ (k m : Nat) (A' : Option Addr) (c' : Nat), 1 ≤ k ∧ k ≤ max 1 (n - 1) ∧ m ≤ k ∧ i = .int .i64 k ∧ v = .slice A' m c' ∧ Hid (OwnI wr w.heap.size A' m c' (turnsI xs k)) ∧ Hid (Below w.heap.size w wr)) (fun _ i _ => n - (intOf i).toNat)
    case atStart => exact ⟨1, 0, _, _, by omega, by omega, by omega, rfl, rfl, by rw [turns_one]; exact OwnI.empty _ (unhide HB).size, (unhide HB).alloc (unhide HB).size _⟩
    case round =>
      obtain ⟨k, m, A', c', hk0, hk, hmk, rfl, rfl, hO, hB⟩ := hrel
      by_cases hlt : k + 1 < n
      · obtain ⟨ad, x, rfl, _, hx, hc⟩ := ((unhide HR).below (unhide hB)).get (show k < n by omega)
        obtain ⟨ae, a, had, _, ha, hca⟩ := ((unhide HR).below (unhide hB)).get (show k - 1 < n by omega)
        obtain rfl : ad = ae := by simpa using had
        obtain ⟨ae, b, had2, _, hb, hcb⟩ := ((unhide HR).below (unhide hB)).get (show k + 1 < n by omega)
        obtain rfl : ad = ae := by simpa using had2
        have HH := hide (turns_hit xs k a x b hk0 (unhide ha) (unhide hx) (unhide hb))
        have HM := hide (turns_miss xs k a x b (unhide ha) (unhide hx) (unhide hb))
        have hl1 : (k : Int) < (n : Int) := by omega
        have hl2 : (k : Int) - 1 < (n : Int) := by omega
        have hl3 : 0 ≤ (k : Int) - 1 := by omega
        have hl4 : (k : Int) + 1 < (n : Int) := by omega
        have hcb2 : wr.cell? ⟨ad.block, ad.off + (k + 1), none⟩ = some (.int .i64 b) := by simpa [Addr.add] using hcb
        have hl8 : (0 : Int) ≤ (k : Int) + 1 := by omega
        have hl5 : (1 : Int) ≤ (k : Int) := by omega
        have hl6 : (k : Int) ≤ (n : Int) := by omega
        have hl7 : (k : Int) < (n : Int) + 1 := by omega
        have e3 : ((k : Int) - 1).toNat = k - 1 := by omega
        have e4 : ((k : Int) + 1).toNat = k + 1 := by omega
        clear hx ha hb had had2
        have ways : turnB a x b = true ∧ a < x ∧ b < x ∨ turnB a x b = true ∧ x < a ∧ x < b ∨ turnB a x b = false ∧ a < x ∧ x ≤ b ∨ turnB a x b = false ∧ x < a ∧ b ≤ x ∨ turnB a x b = false ∧ x = a := by
          have hd : turnB a x b = ((decide (a < x) && decide (b < x)) || (decide (x < a) && decide (x < b))) := rfl
          rw [hd]
          by_cases h1 : a < x <;> by_cases h2 : b < x <;> by_cases h3 : x < a <;> by_cases h4 : x < b <;> simp [h1, h2, h3, h4] <;> omega
        rcases ways with ⟨ht, w1, w2⟩ | ⟨ht, w1, w2⟩ | ⟨ht, w1, w2⟩ | ⟨ht, w1, w2⟩ | ⟨ht, w1⟩
        · have HT := hide (unhide HH ht); clear HH HM ht
          go_wp2
          have s1 : IntKind.i64.wrap ((k : Int) - 1) = (k : Int) - 1 := IntWalk.i64_in _ (by omega)
          have s2 : IntKind.i64.wrap ((k : Int) + 1) = (k : Int) + 1 := IntWalk.i64_in _ (by omega)
          go_quiet (fail)
          clear s1 s2 e3 e4
          go_wp2_with (at_builtin; refine append_int _ rfl _ _ rfl w A' m c' (turnsI xs k) rfl ((OwnI.below (unhide hO) (below_drewN (Below.refl _ _) _) (Nat.le_refl _)).alloc _) ((below_drewN (unhide hB) _).alloc (unhide hB).size _) _ k rfl (cellNew _ _ _) (by omega) ?_; intro A2 c2 w2 hO2 hB2)
          rw [← unhide HT] at hO2
          have HO2 := hide hO2
          have HB2 := hide hB2
          clear hO2 hB2 hO hB HT
          go_wp2
          go_roundw
          case rel => exact ⟨k + 1, m + 1, A2, c2, by omega, by omega, by omega, by go_num, rfl, HO2, HB2⟩
          case measure => simp [intOf]; omega
        · have HT := hide (unhide HH ht); clear HH HM ht
          go_wp2
          have s1 : IntKind.i64.wrap ((k : Int) - 1) = (k : Int) - 1 := IntWalk.i64_in _ (by omega)
          have s2 : IntKind.i64.wrap ((k : Int) + 1) = (k : Int) + 1 := IntWalk.i64_in _ (by omega)
          go_quiet (fail)
          clear s1 s2 e3 e4
          go_wp2_with (at_builtin; refine append_int _ rfl _ _ rfl w A' m c' (turnsI xs k) rfl ((OwnI.below (unhide hO) (below_drewN (Below.refl _ _) _) (Nat.le_refl _)).alloc _) ((below_drewN (unhide hB) _).alloc (unhide hB).size _) _ k rfl (cellNew _ _ _) (by omega) ?_; intro A2 c2 w2 hO2 hB2)
          rw [← unhide HT] at hO2
          have HO2 := hide hO2
          have HB2 := hide hB2
          clear hO2 hB2 hO hB HT
          go_wp2
          go_roundw
          case rel => exact ⟨k + 1, m + 1, A2, c2, by omega, by omega, by omega, by go_num, rfl, HO2, HB2⟩
          case measure => simp [intOf]; omega
        · have HT := hide (unhide HM ht); clear HH HM ht
          have HO2 : Hid (∀ q, OwnI (wr.drewN q) w.heap.size A' m c' (turnsI xs (k + 1))) := fun q => by
            rw [unhide HT]
            exact OwnI.below (unhide hO) (below_drewN (Below.refl _ _) _) (Nat.le_refl _)
          clear hO HT
          go_wp2
          have s1 : IntKind.i64.wrap ((k : Int) - 1) = (k : Int) - 1 := IntWalk.i64_in _ (by omega)
          have s2 : IntKind.i64.wrap ((k : Int) + 1) = (k : Int) + 1 := IntWalk.i64_in _ (by omega)
          go_quiet (fail)
          clear s1 s2 e3 e4
          go_wp2
          go_roundw
          case rel => exact ⟨k + 1, m, A', c', by omega, by omega, by omega, by go_num, rfl, unhide HO2 _, below_drewN (unhide hB) _⟩
          case measure => simp [intOf]; omega
        · have HT := hide (unhide HM ht); clear HH HM ht
          have HO2 : Hid (∀ q, OwnI (wr.drewN q) w.heap.size A' m c' (turnsI xs (k + 1))) := fun q => by
            rw [unhide HT]
            exact OwnI.below (unhide hO) (below_drewN (Below.refl _ _) _) (Nat.le_refl _)
          clear hO HT
          go_wp2
          have s1 : IntKind.i64.wrap ((k : Int) - 1) = (k : Int) - 1 := IntWalk.i64_in _ (by omega)
          have s2 : IntKind.i64.wrap ((k : Int) + 1) = (k : Int) + 1 := IntWalk.i64_in _ (by omega)
          go_quiet (fail)
          clear s1 s2 e3 e4
          go_wp2
          go_roundw
          case rel => exact ⟨k + 1, m, A', c', by omega, by omega, by omega, by go_num, rfl, unhide HO2 _, below_drewN (unhide hB) _⟩
          case measure => simp [intOf]; omega
        · have HT := hide (unhide HM ht); clear HH HM ht
          subst w1
          have HO2 : Hid (∀ q, OwnI (wr.drewN q) w.heap.size A' m c' (turnsI xs (k + 1))) := fun q => by
            rw [unhide HT]
            exact OwnI.below (unhide hO) (below_drewN (Below.refl _ _) _) (Nat.le_refl _)
          clear hO HT
          go_wp2
          have s1 : IntKind.i64.wrap ((k : Int) - 1) = (k : Int) - 1 := IntWalk.i64_in _ (by omega)
          have s2 : IntKind.i64.wrap ((k : Int) + 1) = (k : Int) + 1 := IntWalk.i64_in _ (by omega)
          go_quiet (fail)
          clear s1 s2 e3 e4
          go_wp2
          go_roundw
          case rel => exact ⟨k + 1, m, A', c', by omega, by omega, by omega, by go_num, rfl, unhide HO2 _, below_drewN (unhide hB) _⟩
          case measure => simp [intOf]; omega
      · have HE : Hid (turnEnd xs = turnsI xs k) := by
          unfold Hid turnEnd
          rw [(unhide HR).len]
          congr 1
          omega
        go_wp2
        go_ret2
        rw [unhide HE]
        exact ⟨A', m, c', rfl, unhide hO, unhide hB⟩
end Go.Proofs.Ytpklnefmjlhlnaa
