/- Chapter 2, the walks: the mean: the program's and the reference's. -/
import Derived.Test.YtdpmpdhhjmbbcaaProg
import Derived.Test.YtdpmpdhhjmbbcaaTraceD
namespace Go.Proofs.Ytdpmpdhhjmbbcaa
open Go.RowKit

/-- the mean in lowest terms, whether there is one -/
def mnR (st sa : Int) (xs : List Int) : Int × Int × Bool := if (goodB st sa xs && decide (0 < xs.length)) = true then (xs.sum.tdiv (Int.gcd xs.sum xs.length : Nat), (xs.length : Int).tdiv (Int.gcd xs.sum xs.length : Nat), true) else (0, 0, false)

set_option maxHeartbeats 2000000 in
set_option maxRecDepth 100000 in
theorem implMean_any (st sa : Int) (A : Option Addr) (n c : Nat) (xs : List Int) (w : World) (hr : RI w w.heap.size A n xs) (hn : n ≤ 1048576) :
    Calls Try.prog 28 #[.agg #[.int .i64 st, .int .i64 sa, .slice A n c]] w (RetNNB w (mnR st sa xs).1 (mnR st sa xs).2.1 (mnR st sa xs).2.2) := by
  have HG := hide (implIsTrace_any st sa A n c xs (w.alloc (.cells #[.int .i64 st, .int .i64 sa, .slice A n c] 27)) ((hr.alloc (Nat.le_refl _) (.cells #[.int .i64 st, .int .i64 sa, .slice A n c] 27)).more (by simp)) hn)
  have HL := hide hr.len
  have B0 : Hid (Below w.heap.size w (w.alloc (.cells #[.int .i64 st, .int .i64 sa, .slice A n c] 27))) := (Below.refl _ _).alloc (Nat.le_refl _) _
  have HR := hide hr
  clear hr
  cases h1 : goodB st sa xs
  · have hR : mnR st sa xs = (0, 0, false) := by unfold mnR; rw [h1]; rfl
    have HRR := hide hR
    clear hR
    go_enter Try.func28, Try.ntmps28
    go_wp2_with (go_at_call 15; refine (unhide HG).mono ?_; rintro e w1 ⟨rfl, hb⟩; have HX := hide (box3_new hb); obtain ⟨hl1, p0, p1, p2⟩ := unhide HX; have HB := hide hb; clear hb)
    go_ret3
    exact ⟨by rw [unhide HRR]; rfl, (unhide B0).trans ((unhide HB).mono (by simp))⟩
  · obtain ⟨_, ⟨g0, g1⟩, hs, _⟩ := goodB_parts h1
    obtain rfl | hpos := Nat.eq_zero_or_pos n
    · have hR : mnR st sa xs = (0, 0, false) := by unfold mnR; rw [unhide HL]; simp
      have HRR := hide hR
      clear hR hs
      go_enter Try.func28, Try.ntmps28
      go_wp2_with (go_at_call 15; refine (unhide HG).mono ?_; rintro e w1 ⟨rfl, hb⟩; have HX := hide (box3_new hb); obtain ⟨hl1, p0, p1, p2⟩ := unhide HX; have HB := hide hb; clear hb)
      go_ret3
      exact ⟨by rw [unhide HRR]; rfl, (unhide B0).trans ((unhide HB).mono (by simp))⟩
    · have HS := hide (smpB_all hs)
      have hn24 : n ≤ 24 := by have := smpB_len hs; have := unhide HL; omega
      have hR : mnR st sa xs = (xs.sum.tdiv (Int.gcd xs.sum n : Nat), (n : Int).tdiv (Int.gcd xs.sum n : Nat), true) := by unfold mnR; rw [h1, unhide HL]; simp [hpos]
      have hsb := sum_bound xs n (unhide HL) (unhide HS)
      have hzn : ((n : Int) == 0) = false := by simp; omega
      obtain ⟨S, hS⟩ : ∃ S, S = xs.sum := ⟨_, rfl⟩
      have HF : Hid (∀ W, Calls Try.prog 59 #[.int .i64 S, .int .i64 n] W (RetFr W S n)) := fun W => fraction_any S n W (by omega) (by omega)
      rw [← hS] at hR hsb
      have HRR := hide hR
      clear hR hs hsb
      go_enter Try.func28, Try.ntmps28
      go_wp2_with (go_at_call 15; refine (unhide HG).mono ?_; rintro e w1 ⟨rfl, hb⟩; have HX := hide (box3_new hb); obtain ⟨hl1, p0, p1, p2⟩ := unhide HX; have HB := hide hb; clear hb)
      have HR1 := hide ((unhide HR).below (((unhide B0).trans ((unhide HB).mono (by simp)))))
      have HC : Hid (∀ s : Abv w1, Calls Try.prog 60 #[.slice A n c] s.w fun e w' => e = .returned (.int .i64 S) ∧ s.w = w') := by
        intro s
        rw [hS]
        exact sum_any A n c _ xs s.w ((unhide HR1).below (s.h.mono (Nat.le_of_lt (unhide HX).1))) hn24 (unhide HS)
      have q2 : ∀ s : Abv w1, s.w.cell? ⟨w.heap.size, 2, none⟩ = some (.slice A n c) := Abv.cell (unhide HX).1 (unhide HX).2.2.2
      have HB0 := hide (fun s : Abv w1 => ((unhide B0).trans ((unhide HB).mono (by simp))).trans (s.h.mono (Nat.le_of_lt (unhide HX).1)))
      clear hS p0 p1 p2
      refine wp_region_abv w1 (by kernel_rfl) (by kernel_rfl) (Below.refl _ _) ?_
      repeat (go_big_quiet_step ((first | (go_at_call 60; exact Calls.abv_same (unhide HC _)) | (go_at_call 59; exact Calls.abv (unhide HF _)))))
      refine wpQuiet_nil ?_
      intro _ hw'
      obtain ⟨s, hw''⟩ := hw'
      subst hw''
      go_wp2
      go_ret3
      exact ⟨by rw [unhide HRR]; rfl, unhide HB0 s⟩

set_option maxHeartbeats 2000000 in
set_option maxRecDepth 100000 in
theorem specMean_any (st sa : Int) (A : Option Addr) (n c : Nat) (xs : List Int) (w : World) (hr : RI w w.heap.size A n xs) (hn : n ≤ 1048576) :
    Calls Try.prog 27 #[.agg #[.int .i64 st, .int .i64 sa, .slice A n c]] w (RetNNB w (mnR st sa xs).1 (mnR st sa xs).2.1 (mnR st sa xs).2.2) := by
  have HG := hide (l2Good_any st sa A n c xs (w.alloc (.cells #[.int .i64 st, .int .i64 sa, .slice A n c] 27)) ((hr.alloc (Nat.le_refl _) (.cells #[.int .i64 st, .int .i64 sa, .slice A n c] 27)).more (by simp)) hn)
  have HL := hide hr.len
  have B0 : Hid (Below w.heap.size w (w.alloc (.cells #[.int .i64 st, .int .i64 sa, .slice A n c] 27))) := (Below.refl _ _).alloc (Nat.le_refl _) _
  have HR := hide hr
  clear hr
  cases h1 : goodB st sa xs
  · have hR : mnR st sa xs = (0, 0, false) := by unfold mnR; rw [h1]; rfl
    have HRR := hide hR
    clear hR
    go_enter Try.func27, Try.ntmps27
    go_wp2_with (go_at_call 46; refine (unhide HG).mono ?_; rintro e w1 ⟨rfl, hb⟩; have HX := hide (box3_new hb); obtain ⟨hl1, p0, p1, p2⟩ := unhide HX; have HB := hide hb; clear hb)
    go_ret3
    exact ⟨by rw [unhide HRR]; rfl, (unhide B0).trans ((unhide HB).mono (by simp))⟩
  · obtain ⟨_, ⟨g0, g1⟩, hs, _⟩ := goodB_parts h1
    obtain rfl | hpos := Nat.eq_zero_or_pos n
    · have hR : mnR st sa xs = (0, 0, false) := by unfold mnR; rw [unhide HL]; simp
      have HRR := hide hR
      clear hR hs
      go_enter Try.func27, Try.ntmps27
      go_wp2_with (go_at_call 46; refine (unhide HG).mono ?_; rintro e w1 ⟨rfl, hb⟩; have HX := hide (box3_new hb); obtain ⟨hl1, p0, p1, p2⟩ := unhide HX; have HB := hide hb; clear hb)
      go_ret3
      exact ⟨by rw [unhide HRR]; rfl, (unhide B0).trans ((unhide HB).mono (by simp))⟩
    · have HS := hide (smpB_all hs)
      have hn24 : n ≤ 24 := by have := smpB_len hs; have := unhide HL; omega
      have hR : mnR st sa xs = (xs.sum.tdiv (Int.gcd xs.sum n : Nat), (n : Int).tdiv (Int.gcd xs.sum n : Nat), true) := by unfold mnR; rw [h1, unhide HL]; simp [hpos]
      have hsb := sum_bound xs n (unhide HL) (unhide HS)
      have hzn : ((n : Int) == 0) = false := by simp; omega
      have HRR := hide hR
      have HF : Hid (∀ W, Calls Try.prog 58 #[.int .i64 xs.sum, .int .i64 n] W (RetFr W xs.sum n)) := fun W => l2Reduce_any xs.sum n W (by omega) (by omega)
      clear hR hs hsb
      obtain ⟨ad, x0, rfl, hbl, _, _⟩ := (unhide HR).get hpos
      go_enter Try.func27, Try.ntmps27
      go_wp2_with (go_at_call 46; refine (unhide HG).mono ?_; rintro e w1 ⟨rfl, hb⟩; have HX := hide (box3_new hb); obtain ⟨hl1, p0, p1, p2⟩ := unhide HX; have HB := hide hb; clear hb)
      have HR1 := hide ((unhide HR).below (((unhide B0).trans ((unhide HB).mono (by simp)))))
      go_loop [5, 6] (fun t i => ∃ (k : Nat) (s : Int), k ≤ n ∧ i = .int .i64 k ∧ t = .int .i64 s ∧ -100000 * (k : Int) ≤ s ∧ s ≤ 100000 * k ∧ Hid (s = (xs.take k).sum)) (fun _ i => n - (intOf i).toNat)
      case atStart => exact ⟨0, 0, Nat.zero_le _, rfl, rfl, by omega, by omega, by simp [Hid]⟩
      case round =>
        obtain ⟨k, s, hk, rfl, rfl, s0, s1, hs⟩ := hrel
        by_cases hlt : k < n
        · obtain ⟨ad', x, hA', _, hx, hc⟩ := (unhide HR1).get hlt
          obtain rfl := Option.some.inj hA'
          have bx := unhide HS x (List.mem_of_getElem? (unhide hx))
          have HE := hide (sum_step xs k x (unhide hx))
          clear hx hA'
          go_wp2
          go_round
          case rel => exact ⟨k + 1, s + x, by omega, by go_num, rfl, by omega, by omega, by rw [Hid, unhide HE, ← unhide hs]⟩
          case measure => simp [intOf]; omega
        · have e : k = n := by omega
          subst e
          have HE : Hid (s = xs.sum) := by
            have hl := unhide HL
            have := unhide hs
            rwa [List.take_of_length_le (by omega)] at this
          clear hs
          obtain rfl := unhide HE
          go_wp2_with (go_at_call 58; refine (unhide HF _).mono ?_; rintro e w2 ⟨rfl, hb2⟩; have HB2 := hide hb2; clear hb2)
          go_ret3
          exact ⟨by rw [unhide HRR]; rfl, ((unhide B0).trans ((unhide HB).mono (by simp))).trans ((unhide HB2).mono (Nat.le_of_lt (unhide HX).1))⟩
end Go.Proofs.Ytdpmpdhhjmbbcaa
