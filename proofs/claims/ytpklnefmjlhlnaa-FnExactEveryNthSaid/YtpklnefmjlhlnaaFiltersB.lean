/- The walk of the reference's Clipped. -/
import Derived.Test.YtpklnefmjlhlnaaProg
import Derived.Test.YtpklnefmjlhlnaaFilters
namespace Go.Proofs.Ytpklnefmjlhlnaa
open Go.RowKit

theorem take_map_step (xs : List Int) (f : Int → Int) (k : Nat) (x : Int) (hx : xs[k]? = some x) : (xs.take (k + 1)).map f = (xs.take k).map f ++ [f x] := by
  rw [List.take_add_one, hx, List.map_append]
  rfl

set_option maxHeartbeats 1000000 in
theorem specClipped_any (A : Option Addr) (n c : Nat) (xs : List Int) (lv : Int) (w : World) (hr : RI w w.heap.size A n xs) (hn : n ≤ 1048576) :
    Calls Try.prog 8 #[.slice A n c, .int .i64 lv] w (RetIB w (if askB xs lv 0 100000 then xs.map (clipI lv) else []) (askB xs lv 0 100000)) := by
  have R0 := hr.alloc (Nat.le_refl _) (.cells #[] 3)
  have HA := hide (l6Asked_any A n c _ xs lv 0 100000 _ R0 hn)
  have HR := hide hr
  clear R0 hr
  cases h1 : askB xs lv 0 100000
  · go_enter Try.func8, Try.ntmps8
    go_wp2_with (go_at_call 22; refine (unhide HA).mono ?_; rintro e w1 ⟨rfl, rfl⟩)
    go_ret2
    exact ⟨_, _, _, rfl, OwnI.empty _ (Nat.le_refl _), (Below.refl _ _).alloc (Nat.le_refl _) _⟩
  · have hlv : 0 ≤ lv ∧ lv ≤ 100000 := by
      unfold askB at h1
      simp only [Bool.and_eq_true] at h1
      exact inB_iff.1 h1.2
    obtain ⟨h3, h4⟩ := hlv
    go_enter Try.func8, Try.ntmps8
    go_wp2_with (go_at_call 22; refine (unhide HA).mono ?_; rintro e w1 ⟨rfl, rfl⟩)
    go_loopw [6, 7] (fun v i wr => ∃ (k : Nat) (A' : Option Addr) (c' : Nat), k ≤ n ∧ i = .int .i64 k ∧ v = .slice A' k c' ∧ Hid (OwnI wr w.heap.size A' k c' ((xs.take k).map (clipI lv))) ∧ Hid (Below w.heap.size w wr)) (fun _ i _ => n - (intOf i).toNat)
    case atStart => exact ⟨0, _, _, Nat.zero_le _, rfl, rfl, by simpa [Hid] using OwnI.empty _ (Nat.le_refl _), (Below.refl _ _).alloc (Nat.le_refl _) _⟩
    case round =>
      obtain ⟨k, A', c', hk, rfl, rfl, hO, hB⟩ := hrel
      by_cases hlt : k < n
      · obtain ⟨ad, x, rfl, _, hx, hc⟩ := ((unhide HR).below (unhide hB)).get hlt
        have HX := hide (take_map_step xs (clipI lv) k x (unhide hx))
        clear hx
        go_wp2_with (first
          | (go_at_call 24; refine (l1Least_any _ _ _).mono ?_; rintro e w2 ⟨rfl, rfl⟩)
          | (go_at_call 23; refine (l1Most_any _ _ _).mono ?_; rintro e w2 ⟨rfl, rfl⟩)
          | (at_builtin; refine append_int _ rfl _ _ rfl w A' k c' ((xs.take k).map (clipI lv)) rfl ((unhide hO).alloc _) ((unhide hB).alloc (unhide hB).size _) _ (clipI lv x) rfl (by simp [clipI]) (by omega) ?_; intro A2 c2 w2 hO2 hB2))
        rw [← unhide HX] at hO2
        have HO2 := hide hO2
        have HB2 := hide hB2
        clear hO2 hB2 hO hB HX
        go_wp2
        go_roundw
        case rel => exact ⟨k + 1, A2, c2, by omega, by go_num, rfl, HO2, HB2⟩
        case measure => simp [intOf]; omega
      · have e : k = n := by omega
        subst e
        go_wp2
        go_ret2
        have hO2 := unhide hO
        rw [List.take_of_length_le (by rw [(unhide HR).len]; exact Nat.le_refl _)] at hO2
        exact ⟨A', k, c', rfl, hO2, unhide hB⟩
end Go.Proofs.Ytpklnefmjlhlnaa
