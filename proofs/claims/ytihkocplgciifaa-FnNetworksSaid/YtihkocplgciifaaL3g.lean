/- Chapter 3, the walks: lists of stations: the reference's. (By gen_l3g.py.) -/
import Derived.Test.YtihkocplgciifaaProg
import Derived.Test.YtihkocplgciifaaAre
namespace Go.Proofs.Ytihkocplgciifaa
open Go.RowKit

theorem str_eq (a b : ByteArray) : (a.toList == b.toList) = decide (a = b) := by
  rw [ByteArray.toList_eq, ByteArray.toList_eq]
  by_cases h : a = b
  · subst h; simp
  · have : ¬ a.data = b.data := fun e => h (by cases a; cases b; simpa using e)
    simp [h, this]
theorem sts_no1 {xs : List St} {k : Nat} (hk : k < xs.length) (h : nxB xs k = false) : stsB xs = false := by unfold stsB lstB; rw [allB_no hk h]; rfl
theorem sts_no2 {xs : List St} {i k : Nat} (hk : k < xs.length) (hi : i < k) (h : nmB xs i k = false) : stsB xs = false := by
  unfold stsB nmsB
  rw [allB_no (g := fun j => allB (fun i => nmB xs i j) j) hk (allB_no hi h)]
  simp
theorem sts_no3 {xs : List St} {i k : Nat} (hk : k < xs.length) (hi : i < k) (h : plB xs i k = false) : stsB xs = false := by
  unfold stsB plsB
  rw [allB_no (g := fun j => allB (fun i => plB xs i j) j) hk (allB_no hi h)]
  simp
theorem nmB_of {xs : List St} {i k : Nat} {s t : St} (h : xs[i]? = some t) (h' : xs[k]? = some s) : nmB xs i k = !decide (t.nm = s.nm) := by unfold nmB; rw [stAt_of h, stAt_of h']
theorem plB_of {xs : List St} {i k : Nat} {s t : St} (h : xs[i]? = some t) (h' : xs[k]? = some s) : plB xs i k = !(decide (t.x = s.x) && decide (t.y = s.y)) := by unfold plB; rw [stAt_of h, stAt_of h']

set_option maxHeartbeats 8000000 in
set_option maxRecDepth 100000 in
theorem l3Good_any (A : Option Addr) (n c : Nat) (xs : List St) (w : World) (hr : RS w w.heap.size A n xs) (hn : n ≤ 9223372036854775807) (hs : ∀ x ∈ xs, x.nm.size ≤ 9223372036854775807) :
    Calls Try.prog 67 #[.slice A n c] w fun e w' => e = .returned (.bool (stsB xs)) ∧ Below w.heap.size w w' := by
  have HR := hide hr
  have HL := hide hr.len
  have HS := hide hs
  clear hr hs
  go_enter Try.func67, Try.ntmps67
  go_wp2
  go_loopw [3] (fun i wr => ∃ k : Nat, k ≤ n ∧ k ≤ 11 ∧ i = .int .i64 k ∧ Hid (allB (nxB xs) k = true ∧ nmsB xs k = true ∧ plsB xs k = true) ∧ Hid (Below w.heap.size w wr)) (fun i _ => n - (intOf i).toNat)
  case atStart => exact ⟨0, Nat.zero_le _, by omega, rfl, ⟨rfl, rfl, rfl⟩, Below.refl _ _⟩
  case round =>
    obtain ⟨k, hk, hk11, rfl, hM, hB⟩ := hrel
    by_cases hlt : k < n ∧ k ≤ 10
    · obtain ⟨hlt, hle⟩ := hlt
      obtain ⟨wo, rfl⟩ : ∃ wo : World, wo = wr := ⟨_, rfl⟩
      obtain ⟨ad, s, rfl, hbx, hx, hrow⟩ := ((unhide HR).below (unhide hB)).get hlt
      have hbw : (ad.add (k * 8)).block < wo.heap.size := by rw [block_of_add]; exact Nat.lt_of_lt_of_le hbx (unhide hB).size
      have hsz := mem_size (unhide HS) (unhide hx)
      obtain ⟨c0, c1, c2, c3, c4, c5, c6, c7⟩ := hrow
      have HB2 : Hid (Below w.heap.size w (wo.alloc (.cells #[.int .i64 s.id, .string s.nm, .int .i64 s.x, .int .i64 s.y, .int .i64 s.gn, .int .i64 s.lw, .int .i64 s.hg, .int .i64 s.ut] 26))) := (unhide hB).alloc (unhide hB).size _
      have HH := hide (fun t : Abv (wo.alloc (.cells #[.int .i64 s.id, .string s.nm, .int .i64 s.x, .int .i64 s.y, .int .i64 s.gn, .int .i64 s.lw, .int .i64 s.hg, .int .i64 s.ut] 26)) => (Row8.here wo s).abv (by simp) t)
      have HV := hide (fun W => okSp_any s W hsz)
      have l1 : (k : Int) < (n : Int) := by omega
      have l2 : (0 : Int) ≤ (k : Int) := by omega
      have l9 : (k : Int) ≤ 10 := by omega
      rcases Nat.eq_zero_or_pos k with hk0 | hk0
      · subst hk0
        simp only [Nat.zero_mul, addr_add_zero] at c0 c1 c2 c3 c4 c5 c6 c7 hbw
        rcases h1 : okSt s with _ | _
        · have HE : Hid (stsB xs = false) := sts_no1 (k := 0) (by have := unhide HL; omega) (by rw [nxB_zero (unhide hx), h1])
          rw [h1] at HV
          clear hx hM
          go_wp2_with fail
          have hh := unhide HH
          have h0 := fun t : Abv (wo.alloc (.cells #[.int .i64 s.id, .string s.nm, .int .i64 s.x, .int .i64 s.y, .int .i64 s.gn, .int .i64 s.lw, .int .i64 s.hg, .int .i64 s.ut] 26)) => (hh t).c0
          have h1 := fun t : Abv (wo.alloc (.cells #[.int .i64 s.id, .string s.nm, .int .i64 s.x, .int .i64 s.y, .int .i64 s.gn, .int .i64 s.lw, .int .i64 s.hg, .int .i64 s.ut] 26)) => (hh t).c1
          have h2 := fun t : Abv (wo.alloc (.cells #[.int .i64 s.id, .string s.nm, .int .i64 s.x, .int .i64 s.y, .int .i64 s.gn, .int .i64 s.lw, .int .i64 s.hg, .int .i64 s.ut] 26)) => (hh t).c2
          have h3 := fun t : Abv (wo.alloc (.cells #[.int .i64 s.id, .string s.nm, .int .i64 s.x, .int .i64 s.y, .int .i64 s.gn, .int .i64 s.lw, .int .i64 s.hg, .int .i64 s.ut] 26)) => (hh t).c3
          have h4 := fun t : Abv (wo.alloc (.cells #[.int .i64 s.id, .string s.nm, .int .i64 s.x, .int .i64 s.y, .int .i64 s.gn, .int .i64 s.lw, .int .i64 s.hg, .int .i64 s.ut] 26)) => (hh t).c4
          have h5 := fun t : Abv (wo.alloc (.cells #[.int .i64 s.id, .string s.nm, .int .i64 s.x, .int .i64 s.y, .int .i64 s.gn, .int .i64 s.lw, .int .i64 s.hg, .int .i64 s.ut] 26)) => (hh t).c5
          have h6 := fun t : Abv (wo.alloc (.cells #[.int .i64 s.id, .string s.nm, .int .i64 s.x, .int .i64 s.y, .int .i64 s.gn, .int .i64 s.lw, .int .i64 s.hg, .int .i64 s.ut] 26)) => (hh t).c6
          have h7 := fun t : Abv (wo.alloc (.cells #[.int .i64 s.id, .string s.nm, .int .i64 s.x, .int .i64 s.y, .int .i64 s.gn, .int .i64 s.lw, .int .i64 s.hg, .int .i64 s.ut] 26)) => (hh t).c7
          clear hh
          refine wp_region_abv (wo.alloc (.cells #[.int .i64 s.id, .string s.nm, .int .i64 s.x, .int .i64 s.y, .int .i64 s.gn, .int .i64 s.lw, .int .i64 s.hg, .int .i64 s.ut] 26)) (by kernel_rfl) (by kernel_rfl) (Below.refl _ _) ?_
          repeat (go_big_quiet_step ((first | (go_at_call 62; exact Calls.abv (unhide HV _)))))
          refine wpQuiet_nil ?_
          intro _ hw'
          obtain ⟨sv, hw''⟩ := hw'
          subst hw''
          go_wp2_with fail
          go_ret
          exact ⟨ret_bool (unhide HE).symm, (unhide HB2).trans (sv.h.mono (by have := (unhide HB2).size; exact this))⟩
        · have HE1 : Hid (allB (nxB xs) (0 + 1) = true) := allB_step (unhide hM).1 (by rw [nxB_zero (unhide hx), h1])
          have HM2 : Hid (allB (nxB xs) (0 + 1) = true ∧ nmsB xs (0 + 1) = true ∧ plsB xs (0 + 1) = true) := ⟨unhide HE1, rfl, rfl⟩
          rw [h1] at HV
          clear hx hM
          go_wp2_with fail
          have hh := unhide HH
          have h0 := fun t : Abv (wo.alloc (.cells #[.int .i64 s.id, .string s.nm, .int .i64 s.x, .int .i64 s.y, .int .i64 s.gn, .int .i64 s.lw, .int .i64 s.hg, .int .i64 s.ut] 26)) => (hh t).c0
          have h1 := fun t : Abv (wo.alloc (.cells #[.int .i64 s.id, .string s.nm, .int .i64 s.x, .int .i64 s.y, .int .i64 s.gn, .int .i64 s.lw, .int .i64 s.hg, .int .i64 s.ut] 26)) => (hh t).c1
          have h2 := fun t : Abv (wo.alloc (.cells #[.int .i64 s.id, .string s.nm, .int .i64 s.x, .int .i64 s.y, .int .i64 s.gn, .int .i64 s.lw, .int .i64 s.hg, .int .i64 s.ut] 26)) => (hh t).c2
          have h3 := fun t : Abv (wo.alloc (.cells #[.int .i64 s.id, .string s.nm, .int .i64 s.x, .int .i64 s.y, .int .i64 s.gn, .int .i64 s.lw, .int .i64 s.hg, .int .i64 s.ut] 26)) => (hh t).c3
          have h4 := fun t : Abv (wo.alloc (.cells #[.int .i64 s.id, .string s.nm, .int .i64 s.x, .int .i64 s.y, .int .i64 s.gn, .int .i64 s.lw, .int .i64 s.hg, .int .i64 s.ut] 26)) => (hh t).c4
          have h5 := fun t : Abv (wo.alloc (.cells #[.int .i64 s.id, .string s.nm, .int .i64 s.x, .int .i64 s.y, .int .i64 s.gn, .int .i64 s.lw, .int .i64 s.hg, .int .i64 s.ut] 26)) => (hh t).c5
          have h6 := fun t : Abv (wo.alloc (.cells #[.int .i64 s.id, .string s.nm, .int .i64 s.x, .int .i64 s.y, .int .i64 s.gn, .int .i64 s.lw, .int .i64 s.hg, .int .i64 s.ut] 26)) => (hh t).c6
          have h7 := fun t : Abv (wo.alloc (.cells #[.int .i64 s.id, .string s.nm, .int .i64 s.x, .int .i64 s.y, .int .i64 s.gn, .int .i64 s.lw, .int .i64 s.hg, .int .i64 s.ut] 26)) => (hh t).c7
          clear hh
          refine wp_region_abv (wo.alloc (.cells #[.int .i64 s.id, .string s.nm, .int .i64 s.x, .int .i64 s.y, .int .i64 s.gn, .int .i64 s.lw, .int .i64 s.hg, .int .i64 s.ut] 26)) (by kernel_rfl) (by kernel_rfl) (Below.refl _ _) ?_
          repeat (go_big_quiet_step ((first | (go_at_call 62; exact Calls.abv (unhide HV _)))))
          refine wpQuiet_nil ?_
          intro _ hw'
          obtain ⟨sv, hw''⟩ := hw'
          subst hw''
          have HB3 := hide ((unhide HB2).trans (sv.h.mono (by have := (unhide HB2).size; exact this)))
          go_wp2_with fail
          refine wp_loop_rounds 1 ?_
          rw [rounds_succ]
          go_wp2_with fail
          go_roundw
          case rel => exact ⟨0 + 1, by omega, by omega, by go_num, HM2, unhide HB3⟩
          case measure => simp [intOf]; omega
      · obtain ⟨ad', s', had, _, hx', hrow'⟩ := ((unhide HR).below (unhide hB)).get (show k - 1 < n by omega)
        obtain rfl := Option.some.inj had
        have hbw' : (ad.add ((k - 1) * 8)).block < wo.heap.size := by rw [block_of_add]; exact Nat.lt_of_lt_of_le hbx (unhide hB).size
        have HP := hide (fun t : Abv (wo.alloc (.cells #[.int .i64 s.id, .string s.nm, .int .i64 s.x, .int .i64 s.y, .int .i64 s.gn, .int .i64 s.lw, .int .i64 s.hg, .int .i64 s.ut] 26)) => (hrow'.alloc hbw' (.cells #[.int .i64 s.id, .string s.nm, .int .i64 s.x, .int .i64 s.y, .int .i64 s.gn, .int .i64 s.lw, .int .i64 s.hg, .int .i64 s.ut] 26)).abv (by simp; omega) t)
        have HX' := hide (unhide hx')
        clear hx' had hrow'
        have l3 : (k : Int) - 1 < (n : Int) := by omega
        have l4 : (1 : Int) ≤ (k : Int) := by omega
        have l5 : (0 : Int) ≤ (k : Int) - 1 := by omega
        have l6 : ((k : Int) - 1).toNat = k - 1 := by omega
        have l7 : (0 : Int) < (k : Int) := by omega
        have l8 : (k : Int) ≤ (n : Int) := by omega
        have s1 : IntKind.i64.wrap ((k : Int) - 1) = (k : Int) - 1 := IntWalk.i64_in _ (by omega)
        rcases h1 : okSt s with _ | _
        · have HE : Hid (stsB xs = false) := sts_no1 (k := k) (by have := unhide HL; omega) (by rw [nxB_next (unhide hx) hk0 (unhide HX'), h1]; rfl)
          rw [h1] at HV
          clear hx hM
          go_wp2_with fail
          have hh := unhide HH
          have h0 := fun t : Abv (wo.alloc (.cells #[.int .i64 s.id, .string s.nm, .int .i64 s.x, .int .i64 s.y, .int .i64 s.gn, .int .i64 s.lw, .int .i64 s.hg, .int .i64 s.ut] 26)) => (hh t).c0
          have h1 := fun t : Abv (wo.alloc (.cells #[.int .i64 s.id, .string s.nm, .int .i64 s.x, .int .i64 s.y, .int .i64 s.gn, .int .i64 s.lw, .int .i64 s.hg, .int .i64 s.ut] 26)) => (hh t).c1
          have h2 := fun t : Abv (wo.alloc (.cells #[.int .i64 s.id, .string s.nm, .int .i64 s.x, .int .i64 s.y, .int .i64 s.gn, .int .i64 s.lw, .int .i64 s.hg, .int .i64 s.ut] 26)) => (hh t).c2
          have h3 := fun t : Abv (wo.alloc (.cells #[.int .i64 s.id, .string s.nm, .int .i64 s.x, .int .i64 s.y, .int .i64 s.gn, .int .i64 s.lw, .int .i64 s.hg, .int .i64 s.ut] 26)) => (hh t).c3
          have h4 := fun t : Abv (wo.alloc (.cells #[.int .i64 s.id, .string s.nm, .int .i64 s.x, .int .i64 s.y, .int .i64 s.gn, .int .i64 s.lw, .int .i64 s.hg, .int .i64 s.ut] 26)) => (hh t).c4
          have h5 := fun t : Abv (wo.alloc (.cells #[.int .i64 s.id, .string s.nm, .int .i64 s.x, .int .i64 s.y, .int .i64 s.gn, .int .i64 s.lw, .int .i64 s.hg, .int .i64 s.ut] 26)) => (hh t).c5
          have h6 := fun t : Abv (wo.alloc (.cells #[.int .i64 s.id, .string s.nm, .int .i64 s.x, .int .i64 s.y, .int .i64 s.gn, .int .i64 s.lw, .int .i64 s.hg, .int .i64 s.ut] 26)) => (hh t).c6
          have h7 := fun t : Abv (wo.alloc (.cells #[.int .i64 s.id, .string s.nm, .int .i64 s.x, .int .i64 s.y, .int .i64 s.gn, .int .i64 s.lw, .int .i64 s.hg, .int .i64 s.ut] 26)) => (hh t).c7
          clear hh
          have pp := unhide HP
          have p0 := fun t : Abv (wo.alloc (.cells #[.int .i64 s.id, .string s.nm, .int .i64 s.x, .int .i64 s.y, .int .i64 s.gn, .int .i64 s.lw, .int .i64 s.hg, .int .i64 s.ut] 26)) => (pp t).c0
          clear pp
          refine wp_region_abv (wo.alloc (.cells #[.int .i64 s.id, .string s.nm, .int .i64 s.x, .int .i64 s.y, .int .i64 s.gn, .int .i64 s.lw, .int .i64 s.hg, .int .i64 s.ut] 26)) (by kernel_rfl) (by kernel_rfl) (Below.refl _ _) ?_
          repeat (go_big_quiet_step ((first | (go_at_call 62; exact Calls.abv (unhide HV _)))))
          refine wpQuiet_nil ?_
          intro _ hw'
          obtain ⟨sv, hw''⟩ := hw'
          subst hw''
          go_wp2_with fail
          go_ret
          exact ⟨ret_bool (unhide HE).symm, (unhide HB2).trans (sv.h.mono (by have := (unhide HB2).size; exact this))⟩
        · rw [h1] at HV
          rcases h2 : decide (s'.id < s.id) with _ | _
          · have t3 : decide (s.id ≤ s'.id) = true := by have := of_decide_eq_false h2; exact decide_eq_true (by omega)
            have HE : Hid (stsB xs = false) := sts_no1 (k := k) (by have := unhide HL; omega) (by rw [nxB_next (unhide hx) hk0 (unhide HX'), h1, h2]; rfl)
            clear hx hM
            go_wp2_with fail
            have hh := unhide HH
            have h0 := fun t : Abv (wo.alloc (.cells #[.int .i64 s.id, .string s.nm, .int .i64 s.x, .int .i64 s.y, .int .i64 s.gn, .int .i64 s.lw, .int .i64 s.hg, .int .i64 s.ut] 26)) => (hh t).c0
            have h1 := fun t : Abv (wo.alloc (.cells #[.int .i64 s.id, .string s.nm, .int .i64 s.x, .int .i64 s.y, .int .i64 s.gn, .int .i64 s.lw, .int .i64 s.hg, .int .i64 s.ut] 26)) => (hh t).c1
            have h2 := fun t : Abv (wo.alloc (.cells #[.int .i64 s.id, .string s.nm, .int .i64 s.x, .int .i64 s.y, .int .i64 s.gn, .int .i64 s.lw, .int .i64 s.hg, .int .i64 s.ut] 26)) => (hh t).c2
            have h3 := fun t : Abv (wo.alloc (.cells #[.int .i64 s.id, .string s.nm, .int .i64 s.x, .int .i64 s.y, .int .i64 s.gn, .int .i64 s.lw, .int .i64 s.hg, .int .i64 s.ut] 26)) => (hh t).c3
            have h4 := fun t : Abv (wo.alloc (.cells #[.int .i64 s.id, .string s.nm, .int .i64 s.x, .int .i64 s.y, .int .i64 s.gn, .int .i64 s.lw, .int .i64 s.hg, .int .i64 s.ut] 26)) => (hh t).c4
            have h5 := fun t : Abv (wo.alloc (.cells #[.int .i64 s.id, .string s.nm, .int .i64 s.x, .int .i64 s.y, .int .i64 s.gn, .int .i64 s.lw, .int .i64 s.hg, .int .i64 s.ut] 26)) => (hh t).c5
            have h6 := fun t : Abv (wo.alloc (.cells #[.int .i64 s.id, .string s.nm, .int .i64 s.x, .int .i64 s.y, .int .i64 s.gn, .int .i64 s.lw, .int .i64 s.hg, .int .i64 s.ut] 26)) => (hh t).c6
            have h7 := fun t : Abv (wo.alloc (.cells #[.int .i64 s.id, .string s.nm, .int .i64 s.x, .int .i64 s.y, .int .i64 s.gn, .int .i64 s.lw, .int .i64 s.hg, .int .i64 s.ut] 26)) => (hh t).c7
            clear hh
            have pp := unhide HP
            have p0 := fun t : Abv (wo.alloc (.cells #[.int .i64 s.id, .string s.nm, .int .i64 s.x, .int .i64 s.y, .int .i64 s.gn, .int .i64 s.lw, .int .i64 s.hg, .int .i64 s.ut] 26)) => (pp t).c0
            clear pp
            refine wp_region_abv (wo.alloc (.cells #[.int .i64 s.id, .string s.nm, .int .i64 s.x, .int .i64 s.y, .int .i64 s.gn, .int .i64 s.lw, .int .i64 s.hg, .int .i64 s.ut] 26)) (by kernel_rfl) (by kernel_rfl) (Below.refl _ _) ?_
            repeat (go_big_quiet_step ((first | (go_at_call 62; exact Calls.abv (unhide HV _)))))
            refine wpQuiet_nil ?_
            intro _ hw'
            obtain ⟨sv, hw''⟩ := hw'
            subst hw''
            go_wp2_with fail
            go_ret
            exact ⟨ret_bool (unhide HE).symm, (unhide HB2).trans (sv.h.mono (by have := (unhide HB2).size; exact this))⟩
          · have t3 : decide (s.id ≤ s'.id) = false := by have := of_decide_eq_true h2; exact decide_eq_false (by omega)
            have HE1 : Hid (allB (nxB xs) (k + 1) = true) := allB_step (unhide hM).1 (by rw [nxB_next (unhide hx) hk0 (unhide HX'), h1, h2]; rfl)
            go_wp2_with fail
            have hh := unhide HH
            have h0 := fun t : Abv (wo.alloc (.cells #[.int .i64 s.id, .string s.nm, .int .i64 s.x, .int .i64 s.y, .int .i64 s.gn, .int .i64 s.lw, .int .i64 s.hg, .int .i64 s.ut] 26)) => (hh t).c0
            have h1 := fun t : Abv (wo.alloc (.cells #[.int .i64 s.id, .string s.nm, .int .i64 s.x, .int .i64 s.y, .int .i64 s.gn, .int .i64 s.lw, .int .i64 s.hg, .int .i64 s.ut] 26)) => (hh t).c1
            have h2 := fun t : Abv (wo.alloc (.cells #[.int .i64 s.id, .string s.nm, .int .i64 s.x, .int .i64 s.y, .int .i64 s.gn, .int .i64 s.lw, .int .i64 s.hg, .int .i64 s.ut] 26)) => (hh t).c2
            have h3 := fun t : Abv (wo.alloc (.cells #[.int .i64 s.id, .string s.nm, .int .i64 s.x, .int .i64 s.y, .int .i64 s.gn, .int .i64 s.lw, .int .i64 s.hg, .int .i64 s.ut] 26)) => (hh t).c3
            have h4 := fun t : Abv (wo.alloc (.cells #[.int .i64 s.id, .string s.nm, .int .i64 s.x, .int .i64 s.y, .int .i64 s.gn, .int .i64 s.lw, .int .i64 s.hg, .int .i64 s.ut] 26)) => (hh t).c4
            have h5 := fun t : Abv (wo.alloc (.cells #[.int .i64 s.id, .string s.nm, .int .i64 s.x, .int .i64 s.y, .int .i64 s.gn, .int .i64 s.lw, .int .i64 s.hg, .int .i64 s.ut] 26)) => (hh t).c5
            have h6 := fun t : Abv (wo.alloc (.cells #[.int .i64 s.id, .string s.nm, .int .i64 s.x, .int .i64 s.y, .int .i64 s.gn, .int .i64 s.lw, .int .i64 s.hg, .int .i64 s.ut] 26)) => (hh t).c6
            have h7 := fun t : Abv (wo.alloc (.cells #[.int .i64 s.id, .string s.nm, .int .i64 s.x, .int .i64 s.y, .int .i64 s.gn, .int .i64 s.lw, .int .i64 s.hg, .int .i64 s.ut] 26)) => (hh t).c7
            clear hh
            have pp := unhide HP
            have p0 := fun t : Abv (wo.alloc (.cells #[.int .i64 s.id, .string s.nm, .int .i64 s.x, .int .i64 s.y, .int .i64 s.gn, .int .i64 s.lw, .int .i64 s.hg, .int .i64 s.ut] 26)) => (pp t).c0
            clear pp
            refine wp_region_abv (wo.alloc (.cells #[.int .i64 s.id, .string s.nm, .int .i64 s.x, .int .i64 s.y, .int .i64 s.gn, .int .i64 s.lw, .int .i64 s.hg, .int .i64 s.ut] 26)) (by kernel_rfl) (by kernel_rfl) (Below.refl _ _) ?_
            repeat (go_big_quiet_step ((first | (go_at_call 62; exact Calls.abv (unhide HV _)))))
            refine wpQuiet_nil ?_
            intro _ hw'
            obtain ⟨sv, hw''⟩ := hw'
            subst hw''
            have HB3 := hide ((unhide HB2).trans (sv.h.mono (by have := (unhide HB2).size; exact this)))
            have HBox := hide sv.h
            generalize sv.w = wk at HB3 HBox ⊢
            go_wp2_with fail
            have hbz := (unhide HBox).size
            simp only [World.size_alloc] at hbz
            go_loopw [5] (fun j wj => ∃ i : Nat, i ≤ k ∧ j = .int .i64 i ∧ Hid (allB (fun i => nmB xs i (k)) i = true ∧ allB (fun i => plB xs i (k)) i = true) ∧ Hid (Below wk.heap.size wk wj)) (fun j _ => k - (intOf j).toNat)
            case atStart => exact ⟨0, Nat.zero_le _, rfl, ⟨rfl, rfl⟩, Below.refl _ _⟩
            case round =>
              obtain ⟨i, hi, rfl, hI, hJ⟩ := hrel
              by_cases hil : i < k
              · obtain ⟨ae, t, hae, hbt, ht, hrt⟩ := ((unhide HR).below (unhide HB3)).get (show i < n by omega)
                obtain rfl := Option.some.inj hae
                have hbt2 : (ad.add (i * 8)).block < wk.heap.size := by rw [block_of_add]; exact Nat.lt_of_lt_of_le (by rwa [← block_of_add ad (i * 8), block_of_add] at hbt) (unhide HB3).size
                obtain ⟨q0, q1, q2, q3, q4, q5, q6, q7⟩ := hrt.below (unhide hJ) hbt2
                obtain ⟨b0, b1, b2, b3, b4, b5, b6, b7⟩ := ((Row8.here wo s).below (unhide HBox) (by simp)).below (unhide hJ) (by show wo.heap.size < _; omega)
                have HBJ := hide ((unhide HB3).trans ((unhide hJ).mono (unhide HB3).size))
                have m1 : (i : Int) < (n : Int) := by omega
                have m2 : (0 : Int) ≤ (i : Int) := by omega
                have HN := hide (nmB_of (unhide ht) (unhide hx))
                have HP := hide (plB_of (unhide ht) (unhide hx))
                rcases e1 : decide (t.nm = s.nm) with _ | _
                · have e1' : (t.nm.toList == s.nm.toList) = false := by rw [str_eq, e1]
                  rcases e2 : decide (t.x = s.x) with _ | _
                  · have e2' : (t.x == s.x) = false := by simpa using of_decide_eq_false e2
                    have HI2 : Hid (allB (fun i => nmB xs i (k)) (i + 1) = true ∧ allB (fun i => plB xs i (k)) (i + 1) = true) := ⟨allB_step (unhide hI).1 (by rw [unhide HN, e1]; rfl), allB_step (unhide hI).2 (by rw [unhide HP, e2]; first | rfl | simp)⟩
                    clear e1 HN HP ht hae
                    go_wp2_with fail
                    go_quiet (fail)
                    go_wp2_with fail
                    go_roundw
                    case rel => exact ⟨i + 1, by omega, by go_num, HI2, below_drewN (unhide hJ) _⟩
                    case measure => simp [intOf]; omega
                  · have e2' : (t.x == s.x) = true := by simpa using of_decide_eq_true e2
                    rcases e3 : decide (t.y = s.y) with _ | _
                    · have e3' : (t.y == s.y) = false := by simpa using of_decide_eq_false e3
                      have HI2 : Hid (allB (fun i => nmB xs i (k)) (i + 1) = true ∧ allB (fun i => plB xs i (k)) (i + 1) = true) := ⟨allB_step (unhide hI).1 (by rw [unhide HN, e1]; rfl), allB_step (unhide hI).2 (by rw [unhide HP, e2, e3]; first | rfl | simp)⟩
                      clear e1 HN HP ht hae
                      go_wp2_with fail
                      go_quiet (fail)
                      go_wp2_with fail
                      go_roundw
                      case rel => exact ⟨i + 1, by omega, by go_num, HI2, below_drewN (unhide hJ) _⟩
                      case measure => simp [intOf]; omega
                    · have e3' : (t.y == s.y) = true := by simpa using of_decide_eq_true e3
                      have HE : Hid (stsB xs = false) := sts_no3 (i := i) (k := k) (by have := unhide HL; omega) hil (by rw [unhide HP, e2, e3]; rfl)
                      clear e1 HN HP ht hae
                      go_wp2_with fail
                      go_quiet (fail)
                      go_wp2_with fail
                      go_ret
                      exact ⟨ret_bool (unhide HE).symm, below_drewN (unhide HBJ) _⟩
                · have e1' : (t.nm.toList == s.nm.toList) = true := by rw [str_eq, e1]
                  have HE : Hid (stsB xs = false) := sts_no2 (i := i) (k := k) (by have := unhide HL; omega) hil (by rw [unhide HN, e1]; rfl)
                  clear e1 HN HP ht hae
                  go_wp2_with fail
                  go_quiet (fail)
                  go_wp2_with fail
                  go_ret
                  exact ⟨ret_bool (unhide HE).symm, below_drewN (unhide HBJ) _⟩
              · obtain rfl : i = k := by omega
                have HM2 : Hid (allB (nxB xs) (i + 1) = true ∧ nmsB xs (i + 1) = true ∧ plsB xs (i + 1) = true) := ⟨unhide HE1, allB_step (unhide hM).2.1 (unhide hI).1, allB_step (unhide hM).2.2 (unhide hI).2⟩
                have HBJ := hide ((unhide HB3).trans ((unhide hJ).mono (unhide HB3).size))
                clear HE1 hI hM
                go_wp2_with fail
                go_roundw
                case rel => exact ⟨i + 1, by omega, by omega, by go_num, HM2, unhide HBJ⟩
                case measure => simp [intOf]; omega
    · have HE : Hid (stsB xs = decide ((n : Int) ≤ 10)) := by
        by_cases h10 : n ≤ 10
        · obtain rfl : k = n := by omega
          obtain ⟨g1, g2, g3⟩ := unhide hM
          unfold Hid stsB lstB
          rw [unhide HL, g1, g2, g3, decide_eq_true h10, decide_eq_true (show (k : Int) ≤ 10 by omega)]; rfl
        · unfold Hid stsB lstB
          rw [unhide HL, decide_eq_false h10, decide_eq_false (show ¬ (n : Int) ≤ 10 by omega), Bool.and_false]; rfl
      clear hM
      rcases Nat.lt_or_ge k n with h9 | h9
      · have l1 : (10 : Int) < (k : Int) := by omega
        go_wp2
        go_ret
        exact ⟨ret_bool (unhide HE).symm, unhide hB⟩
      · obtain rfl : k = n := by omega
        go_wp2
        go_ret
        exact ⟨ret_bool (unhide HE).symm, unhide hB⟩
theorem specAre_any (A : Option Addr) (n c : Nat) (xs : List St) (w : World) (hr : RS w w.heap.size A n xs) (hn : n ≤ 9223372036854775807) (hs : ∀ x ∈ xs, x.nm.size ≤ 9223372036854775807) :
    Calls Try.prog 20 #[.slice A n c] w fun e w' => e = .returned (.bool (stsB xs)) ∧ Below w.heap.size w w' := by
  have HS := hide (l3Good_any A n c xs w hr hn hs)
  clear hr
  go_enter Try.func20, Try.ntmps20
  go_wp2_with fail
  refine (unhide HS).mono ?_
  rintro e w1 ⟨rfl, hb⟩
  have HB := hide hb
  clear hb
  go_wp2_with fail
  go_ret
  exact ⟨rfl, unhide HB⟩
end Go.Proofs.Ytihkocplgciifaa
