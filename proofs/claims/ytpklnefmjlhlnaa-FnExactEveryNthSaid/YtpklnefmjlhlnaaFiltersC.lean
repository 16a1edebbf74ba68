/- The walks of chapter 6: every nth sample, the program's and the reference's. -/
import Derived.Test.YtpklnefmjlhlnaaProg
import Derived.Test.YtpklnefmjlhlnaaFiltersB
namespace Go.Proofs.Ytpklnefmjlhlnaa
open Go.RowKit

/-- the samples at the places 0, q, 2q, .. -/
def nthI (q : Nat) (xs : List Int) (k : Nat) : List Int := (List.range k).map fun j => xs.getD (j * q) 0
def everyI (q : Int) (xs : List Int) : List Int := nthI q.toNat xs ((xs.length + q.toNat - 1) / q.toNat)
theorem nthI_step (q : Nat) (xs : List Int) (k : Nat) (x : Int) (hx : xs[k * q]? = some x) : nthI q xs (k + 1) = nthI q xs k ++ [x] := by
  unfold nthI
  rw [List.range_succ, List.map_append, List.map_singleton, List.getD_eq_getElem?_getD, hx]
  rfl
theorem everyI_end (q : Nat) (xs : List Int) (k m : Nat) (hq : 1 ≤ q) (hm : m = k * q) (h1 : xs.length ≤ m) (h2 : m < xs.length + q) : everyI (q : Int) xs = nthI q xs k := by
  unfold everyI
  rw [Int.toNat_natCast]
  have e : (xs.length + q - 1) / q = k := by
    subst hm
    rw [Nat.div_eq_iff (by omega)]
    omega
  rw [e]

theorem everyI_len (q : Int) (xs : List Int) (h : xs.length ≤ 1048576) : (if askB xs q 1 10 then everyI q xs else []).length ≤ 2097152 := by
  by_cases h1 : askB xs q 1 10 = true
  · rw [if_pos h1]
    unfold askB at h1
    simp only [Bool.and_eq_true] at h1
    have := inB_iff.1 h1.2
    unfold everyI nthI
    rw [List.length_map, List.length_range]
    have := Nat.div_le_self (xs.length + q.toNat - 1) q.toNat
    omega
  · rw [if_neg h1]
    simp

set_option maxHeartbeats 1000000 in
theorem specEveryNth_any (A : Option Addr) (n c : Nat) (xs : List Int) (q : Int) (w : World) (hr : RI w w.heap.size A n xs) (hn : n ≤ 1048576) :
    Calls Try.prog 14 #[.slice A n c, .int .i64 q] w (RetIB w (if askB xs q 1 10 then everyI q xs else []) (askB xs q 1 10)) := by
  have R0 := hr.alloc (Nat.le_refl _) (.cells #[] 3)
  have HA := hide (l6Asked_any A n c _ xs q 1 10 _ R0 hn)
  have HR := hide hr
  clear R0 hr
  cases h1 : askB xs q 1 10
  · go_enter Try.func14, Try.ntmps14
    go_wp2_with (go_at_call 22; refine (unhide HA).mono ?_; rintro e w1 ⟨rfl, rfl⟩)
    go_ret2
    exact ⟨_, _, _, rfl, OwnI.empty _ (Nat.le_refl _), (Below.refl _ _).alloc (Nat.le_refl _) _⟩
  · have hq : 1 ≤ q ∧ q ≤ 10 := by
      unfold askB at h1
      simp only [Bool.and_eq_true] at h1
      exact inB_iff.1 h1.2
    obtain ⟨h3, h4⟩ := hq
    obtain ⟨u, rfl⟩ := Int.eq_ofNat_of_zero_le (show 0 ≤ q by omega)
    go_enter Try.func14, Try.ntmps14
    go_wp2_with (go_at_call 22; refine (unhide HA).mono ?_; rintro e w1 ⟨rfl, rfl⟩)
    go_loopw [6, 7] (fun v i wr => ∃ (m k : Nat) (A' : Option Addr) (c' : Nat), m < n + u ∧ k ≤ m ∧ i = .int .i64 m ∧ v = .slice A' k c' ∧ Hid (m = k * u) ∧ Hid (OwnI wr w.heap.size A' k c' (nthI u xs k)) ∧ Hid (Below w.heap.size w wr)) (fun _ i _ => n + u - (intOf i).toNat)
    case atStart => exact ⟨0, 0, _, _, by omega, by omega, rfl, rfl, by simp [Hid], by simpa [Hid, nthI] using OwnI.empty _ (Nat.le_refl _), (Below.refl _ _).alloc (Nat.le_refl _) _⟩
    case round =>
      obtain ⟨m, k, A', c', hm, hk, rfl, rfl, hE, hO, hB⟩ := hrel
      by_cases hlt : m < n
      · obtain ⟨ad, x, rfl, _, hx, hc⟩ := ((unhide HR).below (unhide hB)).get hlt
        have HX := hide (nthI_step u xs k x (by rw [← unhide hE]; exact unhide hx))
        have HE2 : Hid (m + u = (k + 1) * u) := by unfold Hid; rw [unhide hE, Nat.add_mul, Nat.one_mul]
        clear hx hE
        go_wp2_with (at_builtin; refine append_int _ rfl _ _ rfl w A' k c' (nthI u xs k) rfl ((unhide hO).alloc _) ((unhide hB).alloc (unhide hB).size _) _ x rfl (by simp) (by omega) ?_; intro A2 c2 w2 hO2 hB2)
        rw [← unhide HX] at hO2
        have HO2 := hide hO2
        have HB2 := hide hB2
        clear hO2 hB2 hO hB HX
        go_wp2
        go_roundw
        case rel => exact ⟨m + u, k + 1, A2, c2, by omega, by omega, by go_num, rfl, HE2, HO2, HB2⟩
        case measure => simp [intOf]; omega
      · have hO2 := unhide hO
        rw [← everyI_end u xs k m (by omega) (unhide hE) (by rw [(unhide HR).len]; omega) (by rw [(unhide HR).len]; omega)] at hO2
        have HO2 := hide hO2
        clear hO2 hO hE
        go_wp2
        go_ret2
        exact ⟨A', k, c', rfl, unhide HO2, unhide hB⟩

set_option maxHeartbeats 1000000 in
theorem implEveryNth_any (A : Option Addr) (n c : Nat) (xs : List Int) (q : Int) (w : World) (hr : RI w w.heap.size A n xs) (hn : n ≤ 1048576) :
    Calls Try.prog 15 #[.slice A n c, .int .i64 q] w (RetIB w (if askB xs q 1 10 then everyI q xs else []) (askB xs q 1 10)) := by
  have HS := hide (areSamples_any A n c xs _ hr (by omega))
  have HR := hide hr
  clear hr
  unfold askB
  cases h1 : smpB xs
  · go_enter Try.func15, Try.ntmps15
    go_wp2_with (go_at_call 25; refine (unhide HS).mono ?_; rintro e w1 ⟨rfl, hb⟩; have HB := hide hb; clear hb)
    go_ret2
    exact ⟨none, 0, 0, rfl, OwnI.nil _ _, unhide HB⟩
  · cases h2 : inB q 1 10
    · go_enter Try.func15, Try.ntmps15
      go_wp2_with (first
        | (go_at_call 25; refine (unhide HS).mono ?_; rintro e w1 ⟨rfl, hb⟩; have HB := hide hb; clear hb)
        | (go_at_call 26; refine (in_any _ _ _ _).mono ?_; rintro e w2 ⟨rfl, rfl⟩))
      go_ret2
      exact ⟨none, 0, 0, rfl, OwnI.nil _ _, unhide HB⟩
    · obtain ⟨h3, h4⟩ := inB_iff.1 h2
      obtain ⟨u, rfl⟩ := Int.eq_ofNat_of_zero_le (show 0 ≤ q by omega)
      go_enter Try.func15, Try.ntmps15
      go_wp2_with (first
        | (go_at_call 25; refine (unhide HS).mono ?_; rintro e w1 ⟨rfl, hb⟩; have HB := hide hb; clear hb)
        | (go_at_call 26; refine (in_any _ _ _ _).mono ?_; rintro e w2 ⟨rfl, rfl⟩))
      go_loopw [6, 7] (fun v i wr => ∃ (m k : Nat) (A' : Option Addr) (c' : Nat), m < n + u ∧ k ≤ m ∧ i = .int .i64 m ∧ v = .slice A' k c' ∧ Hid (m = k * u) ∧ Hid (OwnI wr w.heap.size A' k c' (nthI u xs k)) ∧ Hid (Below w.heap.size w wr)) (fun _ i _ => n + u - (intOf i).toNat)
      case atStart => exact ⟨0, 0, _, _, by omega, by omega, rfl, rfl, by simp [Hid], by simpa [Hid, nthI] using OwnI.empty _ (unhide HB).size, (unhide HB).alloc (unhide HB).size _⟩
      case round =>
        obtain ⟨m, k, A', c', hm, hk, rfl, rfl, hE, hO, hB⟩ := hrel
        by_cases hlt : m < n
        · obtain ⟨ad, x, rfl, _, hx, hc⟩ := ((unhide HR).below (unhide hB)).get hlt
          have HX := hide (nthI_step u xs k x (by rw [← unhide hE]; exact unhide hx))
          have HE2 : Hid (m + u = (k + 1) * u) := by unfold Hid; rw [unhide hE, Nat.add_mul, Nat.one_mul]
          clear hx hE
          go_wp2_with (at_builtin; refine append_int _ rfl _ _ rfl w A' k c' (nthI u xs k) rfl ((unhide hO).alloc _) ((unhide hB).alloc (unhide hB).size _) _ x rfl (by simp) (by omega) ?_; intro A2 c2 w2 hO2 hB2)
          rw [← unhide HX] at hO2
          have HO2 := hide hO2
          have HB2 := hide hB2
          clear hO2 hB2 hO hB HX
          go_wp2
          go_roundw
          case rel => exact ⟨m + u, k + 1, A2, c2, by omega, by omega, by go_num, rfl, HE2, HO2, HB2⟩
          case measure => simp [intOf]; omega
        · have hO2 := unhide hO
          rw [← everyI_end u xs k m (by omega) (unhide hE) (by rw [(unhide HR).len]; omega) (by rw [(unhide HR).len]; omega)] at hO2
          have HO2 := hide hO2
          clear hO2 hO hE
          go_wp2
          go_ret2
          exact ⟨A', k, c', rfl, unhide HO2, unhide hB⟩
end Go.Proofs.Ytpklnefmjlhlnaa
