/- Chapter 3, the walks: lists of stations: the program's and the reference's. (By gen_are.py.) -/
import Derived.Test.YtihkocplgciifaaProg
import Derived.Test.YtihkocplgciifaaStB
import Derived.Test.YtihkocplgciifaaStsPlain
import Derived.Test.YtihkocplgciifaaMapSet
namespace Go.Proofs.Ytihkocplgciifaa
open Go.RowKit

theorem addr_add_zero (a : Addr) : a.add 0 = a := by unfold Addr.add; rfl
theorem Row8.abv {W : World} {a : Addr} {s : St} (h : Row8 W a s) (ha : a.block < W.heap.size) (t : Abv W) : Row8 t.w a s := h.below t.h ha
theorem Row8.here (w : World) (s : St) : Row8 (w.alloc (.cells #[.int .i64 s.id, .string s.nm, .int .i64 s.x, .int .i64 s.y, .int .i64 s.gn, .int .i64 s.lw, .int .i64 s.hg, .int .i64 s.ut] 26)) ⟨w.heap.size, 0, none⟩ s := ⟨by simp, by simp, by simp, by simp, by simp, by simp, by simp, by simp⟩
theorem RS.abv {W : World} {A : Option Addr} {n : Nat} {xs : List St} (h : RS W W.heap.size A n xs) (s : Abv W) : RS s.w s.w.heap.size A n xs := (h.below s.h).more s.h.size
theorem mem_size {xs : List St} (h : ∀ x ∈ xs, x.nm.size ≤ 9223372036854775807) {k : Nat} {s : St} (hk : xs[k]? = some s) : s.nm.size ≤ 9223372036854775807 := h s (List.mem_of_getElem? hk)

theorem stationId_any (s : St) (w : World) : Calls Try.prog 69 #[.agg #[.int .i64 s.id, .string s.nm, .int .i64 s.x, .int .i64 s.y, .int .i64 s.gn, .int .i64 s.lw, .int .i64 s.hg, .int .i64 s.ut]] w fun e w' => e = .returned (.int .i64 s.id) ∧ Below w.heap.size w w' := by
  go_enter Try.func69, Try.ntmps69
  go_wp2
  go_ret
  exact ⟨rfl, (Below.refl _ _).alloc (Nat.le_refl _) _⟩
theorem okSt_any (s : St) (w : World) (hs : s.nm.size ≤ 9223372036854775807) : Calls Try.prog 18 #[.agg #[.int .i64 s.id, .string s.nm, .int .i64 s.x, .int .i64 s.y, .int .i64 s.gn, .int .i64 s.lw, .int .i64 s.hg, .int .i64 s.ut]] w fun e w' => e = .returned (.bool (okSt s)) ∧ Below w.heap.size w w' := implIsStation_any _ _ _ _ _ _ _ _ w hs
theorem okSp_any (s : St) (w : World) (hs : s.nm.size ≤ 9223372036854775807) : Calls Try.prog 62 #[.agg #[.int .i64 s.id, .string s.nm, .int .i64 s.x, .int .i64 s.y, .int .i64 s.gn, .int .i64 s.lw, .int .i64 s.hg, .int .i64 s.ut]] w fun e w' => e = .returned (.bool (okSt s)) ∧ Below w.heap.size w w' := l3One_any _ _ _ _ _ _ _ _ w hs


set_option maxHeartbeats 4000000 in
set_option maxRecDepth 100000 in
theorem areListed_any (A : Option Addr) (n c : Nat) (xs : List St) (w : World) (hr : RS w w.heap.size A n xs) (hn : n ≤ 9223372036854775807) (hs : ∀ x ∈ xs, x.nm.size ≤ 9223372036854775807) :
    Calls Try.prog 68 #[.slice A n c, .int .i64 10, .func (.func 18) #[] #[], .func (.func 69) #[] #[]] w fun e w' => e = .returned (.bool (lstB xs)) ∧ Below w.heap.size w w' := by
  have HR := hide hr
  have HL := hide hr.len
  have HS := hide hs
  clear hr hs
  go_enter Try.func68, Try.ntmps68
  go_wp2
  go_loopw [13] (fun i wr => ∃ k : Nat, k ≤ n ∧ i = .int .i64 k ∧ Hid (allB (nxB xs) k = true) ∧ Hid (Below w.heap.size w wr)) (fun i _ => n - (intOf i).toNat)
  case atStart => exact ⟨0, Nat.zero_le _, rfl, rfl, Below.refl _ _⟩
  case round =>
    obtain ⟨k, hk, rfl, hM, hB⟩ := hrel
    by_cases hlt : k < n
    · obtain ⟨ad, s, rfl, hbx, hx, hrow⟩ := ((unhide HR).below (unhide hB)).get hlt
      have hbw : (ad.add (k * 8)).block < wr.heap.size := by rw [block_of_add]; exact Nat.lt_of_lt_of_le hbx (unhide hB).size
      have hsz := mem_size (unhide HS) (unhide hx)
      obtain ⟨c0, c1, c2, c3, c4, c5, c6, c7⟩ := hrow
      have HB2 : Hid (Below w.heap.size w (wr.alloc (.cells #[.int .i64 s.id, .string s.nm, .int .i64 s.x, .int .i64 s.y, .int .i64 s.gn, .int .i64 s.lw, .int .i64 s.hg, .int .i64 s.ut] 26))) := (unhide hB).alloc (unhide hB).size _
      have HH := hide (fun t : Abv (wr.alloc (.cells #[.int .i64 s.id, .string s.nm, .int .i64 s.x, .int .i64 s.y, .int .i64 s.gn, .int .i64 s.lw, .int .i64 s.hg, .int .i64 s.ut] 26)) => (Row8.here wr s).abv (by simp) t)
      have HV := hide (fun W => okSt_any s W hsz)
      have HI := hide (fun W => stationId_any s W)
      have l1 : (k : Int) < (n : Int) := by omega
      have l2 : (0 : Int) ≤ (k : Int) := by omega
      rcases Nat.eq_zero_or_pos k with hk0 | hk0
      · subst hk0
        simp only [Nat.zero_mul, addr_add_zero] at c0 c1 c2 c3 c4 c5 c6 c7 hbw
        rcases h1 : okSt s with _ | _
        · have HE : Hid (lstB xs = false) := by unfold Hid lstB; rw [allB_no (k := 0) (by have := unhide HL; omega) (by rw [nxB_zero (unhide hx), h1])]; rfl
          rw [h1] at HV
          clear hx hM
          go_wp2_with fail
          have hh := unhide HH
          have h0 := fun t : Abv (wr.alloc (.cells #[.int .i64 s.id, .string s.nm, .int .i64 s.x, .int .i64 s.y, .int .i64 s.gn, .int .i64 s.lw, .int .i64 s.hg, .int .i64 s.ut] 26)) => (hh t).c0
          have h1 := fun t : Abv (wr.alloc (.cells #[.int .i64 s.id, .string s.nm, .int .i64 s.x, .int .i64 s.y, .int .i64 s.gn, .int .i64 s.lw, .int .i64 s.hg, .int .i64 s.ut] 26)) => (hh t).c1
          have h2 := fun t : Abv (wr.alloc (.cells #[.int .i64 s.id, .string s.nm, .int .i64 s.x, .int .i64 s.y, .int .i64 s.gn, .int .i64 s.lw, .int .i64 s.hg, .int .i64 s.ut] 26)) => (hh t).c2
          have h3 := fun t : Abv (wr.alloc (.cells #[.int .i64 s.id, .string s.nm, .int .i64 s.x, .int .i64 s.y, .int .i64 s.gn, .int .i64 s.lw, .int .i64 s.hg, .int .i64 s.ut] 26)) => (hh t).c3
          have h4 := fun t : Abv (wr.alloc (.cells #[.int .i64 s.id, .string s.nm, .int .i64 s.x, .int .i64 s.y, .int .i64 s.gn, .int .i64 s.lw, .int .i64 s.hg, .int .i64 s.ut] 26)) => (hh t).c4
          have h5 := fun t : Abv (wr.alloc (.cells #[.int .i64 s.id, .string s.nm, .int .i64 s.x, .int .i64 s.y, .int .i64 s.gn, .int .i64 s.lw, .int .i64 s.hg, .int .i64 s.ut] 26)) => (hh t).c5
          have h6 := fun t : Abv (wr.alloc (.cells #[.int .i64 s.id, .string s.nm, .int .i64 s.x, .int .i64 s.y, .int .i64 s.gn, .int .i64 s.lw, .int .i64 s.hg, .int .i64 s.ut] 26)) => (hh t).c6
          have h7 := fun t : Abv (wr.alloc (.cells #[.int .i64 s.id, .string s.nm, .int .i64 s.x, .int .i64 s.y, .int .i64 s.gn, .int .i64 s.lw, .int .i64 s.hg, .int .i64 s.ut] 26)) => (hh t).c7
          clear hh
          refine wp_region_abv (wr.alloc (.cells #[.int .i64 s.id, .string s.nm, .int .i64 s.x, .int .i64 s.y, .int .i64 s.gn, .int .i64 s.lw, .int .i64 s.hg, .int .i64 s.ut] 26)) (by kernel_rfl) (by kernel_rfl) (Below.refl _ _) ?_
          repeat (go_big_quiet_step ((first | (go_at_call 18; exact Calls.abv (unhide HV _)) | (go_at_call 69; exact Calls.abv (unhide HI _)))))
          refine wpQuiet_nil ?_
          intro _ hw'
          obtain ⟨sv, hw''⟩ := hw'
          subst hw''
          go_wp2_with fail
          go_ret
          exact ⟨ret_bool (unhide HE).symm, (unhide HB2).trans (sv.h.mono (by have := (unhide HB2).size; exact this))⟩
        · have HE : Hid (allB (nxB xs) (0 + 1) = true) := allB_step (unhide hM) (by rw [nxB_zero (unhide hx), h1])
          rw [h1] at HV
          clear hx hM
          go_wp2_with fail
          have hh := unhide HH
          have h0 := fun t : Abv (wr.alloc (.cells #[.int .i64 s.id, .string s.nm, .int .i64 s.x, .int .i64 s.y, .int .i64 s.gn, .int .i64 s.lw, .int .i64 s.hg, .int .i64 s.ut] 26)) => (hh t).c0
          have h1 := fun t : Abv (wr.alloc (.cells #[.int .i64 s.id, .string s.nm, .int .i64 s.x, .int .i64 s.y, .int .i64 s.gn, .int .i64 s.lw, .int .i64 s.hg, .int .i64 s.ut] 26)) => (hh t).c1
          have h2 := fun t : Abv (wr.alloc (.cells #[.int .i64 s.id, .string s.nm, .int .i64 s.x, .int .i64 s.y, .int .i64 s.gn, .int .i64 s.lw, .int .i64 s.hg, .int .i64 s.ut] 26)) => (hh t).c2
          have h3 := fun t : Abv (wr.alloc (.cells #[.int .i64 s.id, .string s.nm, .int .i64 s.x, .int .i64 s.y, .int .i64 s.gn, .int .i64 s.lw, .int .i64 s.hg, .int .i64 s.ut] 26)) => (hh t).c3
          have h4 := fun t : Abv (wr.alloc (.cells #[.int .i64 s.id, .string s.nm, .int .i64 s.x, .int .i64 s.y, .int .i64 s.gn, .int .i64 s.lw, .int .i64 s.hg, .int .i64 s.ut] 26)) => (hh t).c4
          have h5 := fun t : Abv (wr.alloc (.cells #[.int .i64 s.id, .string s.nm, .int .i64 s.x, .int .i64 s.y, .int .i64 s.gn, .int .i64 s.lw, .int .i64 s.hg, .int .i64 s.ut] 26)) => (hh t).c5
          have h6 := fun t : Abv (wr.alloc (.cells #[.int .i64 s.id, .string s.nm, .int .i64 s.x, .int .i64 s.y, .int .i64 s.gn, .int .i64 s.lw, .int .i64 s.hg, .int .i64 s.ut] 26)) => (hh t).c6
          have h7 := fun t : Abv (wr.alloc (.cells #[.int .i64 s.id, .string s.nm, .int .i64 s.x, .int .i64 s.y, .int .i64 s.gn, .int .i64 s.lw, .int .i64 s.hg, .int .i64 s.ut] 26)) => (hh t).c7
          clear hh
          refine wp_region_abv (wr.alloc (.cells #[.int .i64 s.id, .string s.nm, .int .i64 s.x, .int .i64 s.y, .int .i64 s.gn, .int .i64 s.lw, .int .i64 s.hg, .int .i64 s.ut] 26)) (by kernel_rfl) (by kernel_rfl) (Below.refl _ _) ?_
          repeat (go_big_quiet_step ((first | (go_at_call 18; exact Calls.abv (unhide HV _)) | (go_at_call 69; exact Calls.abv (unhide HI _)))))
          refine wpQuiet_nil ?_
          intro _ hw'
          obtain ⟨sv, hw''⟩ := hw'
          subst hw''
          go_wp2_with fail
          go_roundw
          case rel => exact ⟨0 + 1, by omega, by go_num, HE, (unhide HB2).trans (sv.h.mono (by have := (unhide HB2).size; exact this))⟩
          case measure => simp [intOf]; omega
      · obtain ⟨ad', s', had, _, hx', hrow'⟩ := ((unhide HR).below (unhide hB)).get (show k - 1 < n by omega)
        obtain rfl := Option.some.inj had
        have hbw' : (ad.add ((k - 1) * 8)).block < wr.heap.size := by rw [block_of_add]; exact Nat.lt_of_lt_of_le hbx (unhide hB).size
        have HP := hide (fun t : Abv (wr.alloc (.cells #[.int .i64 s.id, .string s.nm, .int .i64 s.x, .int .i64 s.y, .int .i64 s.gn, .int .i64 s.lw, .int .i64 s.hg, .int .i64 s.ut] 26)) => (hrow'.alloc hbw' (.cells #[.int .i64 s.id, .string s.nm, .int .i64 s.x, .int .i64 s.y, .int .i64 s.gn, .int .i64 s.lw, .int .i64 s.hg, .int .i64 s.ut] 26)).abv (by simp; omega) t)
        have HJ := hide (fun W => stationId_any s' W)
        have HX' := hide (unhide hx')
        clear hx' had hrow'
        have l3 : (k : Int) - 1 < (n : Int) := by omega
        have l4 : (1 : Int) ≤ (k : Int) := by omega
        have l5 : (0 : Int) ≤ (k : Int) - 1 := by omega
        have l6 : ((k : Int) - 1).toNat = k - 1 := by omega
        have l7 : (0 : Int) < (k : Int) := by omega
        have l8 : (k : Int) ≤ (n : Int) := by omega
        have s1 : IntKind.i64.wrap ((k : Int) - 1) = (k : Int) - 1 := IntWalk.i64_in _ (by omega)
        rcases h1 : okSt s with _ | _
        · have HE : Hid (lstB xs = false) := by unfold Hid lstB; rw [allB_no (k := k) (by have := unhide HL; omega) (by rw [nxB_next (unhide hx) hk0 (unhide HX'), h1]; rfl)]; rfl
          rw [h1] at HV
          clear hx hM
          go_wp2_with fail
          have hh := unhide HH
          have h0 := fun t : Abv (wr.alloc (.cells #[.int .i64 s.id, .string s.nm, .int .i64 s.x, .int .i64 s.y, .int .i64 s.gn, .int .i64 s.lw, .int .i64 s.hg, .int .i64 s.ut] 26)) => (hh t).c0
          have h1 := fun t : Abv (wr.alloc (.cells #[.int .i64 s.id, .string s.nm, .int .i64 s.x, .int .i64 s.y, .int .i64 s.gn, .int .i64 s.lw, .int .i64 s.hg, .int .i64 s.ut] 26)) => (hh t).c1
          have h2 := fun t : Abv (wr.alloc (.cells #[.int .i64 s.id, .string s.nm, .int .i64 s.x, .int .i64 s.y, .int .i64 s.gn, .int .i64 s.lw, .int .i64 s.hg, .int .i64 s.ut] 26)) => (hh t).c2
          have h3 := fun t : Abv (wr.alloc (.cells #[.int .i64 s.id, .string s.nm, .int .i64 s.x, .int .i64 s.y, .int .i64 s.gn, .int .i64 s.lw, .int .i64 s.hg, .int .i64 s.ut] 26)) => (hh t).c3
          have h4 := fun t : Abv (wr.alloc (.cells #[.int .i64 s.id, .string s.nm, .int .i64 s.x, .int .i64 s.y, .int .i64 s.gn, .int .i64 s.lw, .int .i64 s.hg, .int .i64 s.ut] 26)) => (hh t).c4
          have h5 := fun t : Abv (wr.alloc (.cells #[.int .i64 s.id, .string s.nm, .int .i64 s.x, .int .i64 s.y, .int .i64 s.gn, .int .i64 s.lw, .int .i64 s.hg, .int .i64 s.ut] 26)) => (hh t).c5
          have h6 := fun t : Abv (wr.alloc (.cells #[.int .i64 s.id, .string s.nm, .int .i64 s.x, .int .i64 s.y, .int .i64 s.gn, .int .i64 s.lw, .int .i64 s.hg, .int .i64 s.ut] 26)) => (hh t).c6
          have h7 := fun t : Abv (wr.alloc (.cells #[.int .i64 s.id, .string s.nm, .int .i64 s.x, .int .i64 s.y, .int .i64 s.gn, .int .i64 s.lw, .int .i64 s.hg, .int .i64 s.ut] 26)) => (hh t).c7
          clear hh
          have pp := unhide HP
          have p0 := fun t : Abv (wr.alloc (.cells #[.int .i64 s.id, .string s.nm, .int .i64 s.x, .int .i64 s.y, .int .i64 s.gn, .int .i64 s.lw, .int .i64 s.hg, .int .i64 s.ut] 26)) => (pp t).c0
          have p1 := fun t : Abv (wr.alloc (.cells #[.int .i64 s.id, .string s.nm, .int .i64 s.x, .int .i64 s.y, .int .i64 s.gn, .int .i64 s.lw, .int .i64 s.hg, .int .i64 s.ut] 26)) => (pp t).c1
          have p2 := fun t : Abv (wr.alloc (.cells #[.int .i64 s.id, .string s.nm, .int .i64 s.x, .int .i64 s.y, .int .i64 s.gn, .int .i64 s.lw, .int .i64 s.hg, .int .i64 s.ut] 26)) => (pp t).c2
          have p3 := fun t : Abv (wr.alloc (.cells #[.int .i64 s.id, .string s.nm, .int .i64 s.x, .int .i64 s.y, .int .i64 s.gn, .int .i64 s.lw, .int .i64 s.hg, .int .i64 s.ut] 26)) => (pp t).c3
          have p4 := fun t : Abv (wr.alloc (.cells #[.int .i64 s.id, .string s.nm, .int .i64 s.x, .int .i64 s.y, .int .i64 s.gn, .int .i64 s.lw, .int .i64 s.hg, .int .i64 s.ut] 26)) => (pp t).c4
          have p5 := fun t : Abv (wr.alloc (.cells #[.int .i64 s.id, .string s.nm, .int .i64 s.x, .int .i64 s.y, .int .i64 s.gn, .int .i64 s.lw, .int .i64 s.hg, .int .i64 s.ut] 26)) => (pp t).c5
          have p6 := fun t : Abv (wr.alloc (.cells #[.int .i64 s.id, .string s.nm, .int .i64 s.x, .int .i64 s.y, .int .i64 s.gn, .int .i64 s.lw, .int .i64 s.hg, .int .i64 s.ut] 26)) => (pp t).c6
          have p7 := fun t : Abv (wr.alloc (.cells #[.int .i64 s.id, .string s.nm, .int .i64 s.x, .int .i64 s.y, .int .i64 s.gn, .int .i64 s.lw, .int .i64 s.hg, .int .i64 s.ut] 26)) => (pp t).c7
          clear pp
          refine wp_region_abv (wr.alloc (.cells #[.int .i64 s.id, .string s.nm, .int .i64 s.x, .int .i64 s.y, .int .i64 s.gn, .int .i64 s.lw, .int .i64 s.hg, .int .i64 s.ut] 26)) (by kernel_rfl) (by kernel_rfl) (Below.refl _ _) ?_
          repeat (go_big_quiet_step ((first | (go_at_call 18; exact Calls.abv (unhide HV _)) | (go_at_call 69; first | (with_reducible exact Calls.abv (unhide HI _)) | (with_reducible exact Calls.abv (unhide HJ _))))))
          refine wpQuiet_nil ?_
          intro _ hw'
          obtain ⟨sv, hw''⟩ := hw'
          subst hw''
          go_wp2_with fail
          go_ret
          exact ⟨ret_bool (unhide HE).symm, (unhide HB2).trans (sv.h.mono (by have := (unhide HB2).size; exact this))⟩
        · rw [h1] at HV
          rcases h2 : decide (s'.id < s.id) with _ | _
          · have t3 : decide (s.id ≤ s'.id) = true := by have := of_decide_eq_false h2; exact decide_eq_true (by omega)
            have HE : Hid (lstB xs = false) := by unfold Hid lstB; rw [allB_no (k := k) (by have := unhide HL; omega) (by rw [nxB_next (unhide hx) hk0 (unhide HX'), h1, h2]; rfl)]; rfl
            clear hx hM
            go_wp2_with fail
            have hh := unhide HH
            have h0 := fun t : Abv (wr.alloc (.cells #[.int .i64 s.id, .string s.nm, .int .i64 s.x, .int .i64 s.y, .int .i64 s.gn, .int .i64 s.lw, .int .i64 s.hg, .int .i64 s.ut] 26)) => (hh t).c0
            have h1 := fun t : Abv (wr.alloc (.cells #[.int .i64 s.id, .string s.nm, .int .i64 s.x, .int .i64 s.y, .int .i64 s.gn, .int .i64 s.lw, .int .i64 s.hg, .int .i64 s.ut] 26)) => (hh t).c1
            have h2 := fun t : Abv (wr.alloc (.cells #[.int .i64 s.id, .string s.nm, .int .i64 s.x, .int .i64 s.y, .int .i64 s.gn, .int .i64 s.lw, .int .i64 s.hg, .int .i64 s.ut] 26)) => (hh t).c2
            have h3 := fun t : Abv (wr.alloc (.cells #[.int .i64 s.id, .string s.nm, .int .i64 s.x, .int .i64 s.y, .int .i64 s.gn, .int .i64 s.lw, .int .i64 s.hg, .int .i64 s.ut] 26)) => (hh t).c3
            have h4 := fun t : Abv (wr.alloc (.cells #[.int .i64 s.id, .string s.nm, .int .i64 s.x, .int .i64 s.y, .int .i64 s.gn, .int .i64 s.lw, .int .i64 s.hg, .int .i64 s.ut] 26)) => (hh t).c4
            have h5 := fun t : Abv (wr.alloc (.cells #[.int .i64 s.id, .string s.nm, .int .i64 s.x, .int .i64 s.y, .int .i64 s.gn, .int .i64 s.lw, .int .i64 s.hg, .int .i64 s.ut] 26)) => (hh t).c5
            have h6 := fun t : Abv (wr.alloc (.cells #[.int .i64 s.id, .string s.nm, .int .i64 s.x, .int .i64 s.y, .int .i64 s.gn, .int .i64 s.lw, .int .i64 s.hg, .int .i64 s.ut] 26)) => (hh t).c6
            have h7 := fun t : Abv (wr.alloc (.cells #[.int .i64 s.id, .string s.nm, .int .i64 s.x, .int .i64 s.y, .int .i64 s.gn, .int .i64 s.lw, .int .i64 s.hg, .int .i64 s.ut] 26)) => (hh t).c7
            clear hh
            have pp := unhide HP
            have p0 := fun t : Abv (wr.alloc (.cells #[.int .i64 s.id, .string s.nm, .int .i64 s.x, .int .i64 s.y, .int .i64 s.gn, .int .i64 s.lw, .int .i64 s.hg, .int .i64 s.ut] 26)) => (pp t).c0
            have p1 := fun t : Abv (wr.alloc (.cells #[.int .i64 s.id, .string s.nm, .int .i64 s.x, .int .i64 s.y, .int .i64 s.gn, .int .i64 s.lw, .int .i64 s.hg, .int .i64 s.ut] 26)) => (pp t).c1
            have p2 := fun t : Abv (wr.alloc (.cells #[.int .i64 s.id, .string s.nm, .int .i64 s.x, .int .i64 s.y, .int .i64 s.gn, .int .i64 s.lw, .int .i64 s.hg, .int .i64 s.ut] 26)) => (pp t).c2
            have p3 := fun t : Abv (wr.alloc (.cells #[.int .i64 s.id, .string s.nm, .int .i64 s.x, .int .i64 s.y, .int .i64 s.gn, .int .i64 s.lw, .int .i64 s.hg, .int .i64 s.ut] 26)) => (pp t).c3
            have p4 := fun t : Abv (wr.alloc (.cells #[.int .i64 s.id, .string s.nm, .int .i64 s.x, .int .i64 s.y, .int .i64 s.gn, .int .i64 s.lw, .int .i64 s.hg, .int .i64 s.ut] 26)) => (pp t).c4
            have p5 := fun t : Abv (wr.alloc (.cells #[.int .i64 s.id, .string s.nm, .int .i64 s.x, .int .i64 s.y, .int .i64 s.gn, .int .i64 s.lw, .int .i64 s.hg, .int .i64 s.ut] 26)) => (pp t).c5
            have p6 := fun t : Abv (wr.alloc (.cells #[.int .i64 s.id, .string s.nm, .int .i64 s.x, .int .i64 s.y, .int .i64 s.gn, .int .i64 s.lw, .int .i64 s.hg, .int .i64 s.ut] 26)) => (pp t).c6
            have p7 := fun t : Abv (wr.alloc (.cells #[.int .i64 s.id, .string s.nm, .int .i64 s.x, .int .i64 s.y, .int .i64 s.gn, .int .i64 s.lw, .int .i64 s.hg, .int .i64 s.ut] 26)) => (pp t).c7
            clear pp
            refine wp_region_abv (wr.alloc (.cells #[.int .i64 s.id, .string s.nm, .int .i64 s.x, .int .i64 s.y, .int .i64 s.gn, .int .i64 s.lw, .int .i64 s.hg, .int .i64 s.ut] 26)) (by kernel_rfl) (by kernel_rfl) (Below.refl _ _) ?_
            repeat (go_big_quiet_step ((first | (go_at_call 18; exact Calls.abv (unhide HV _)) | (go_at_call 69; first | (with_reducible exact Calls.abv (unhide HI _)) | (with_reducible exact Calls.abv (unhide HJ _))))))
            refine wpQuiet_nil ?_
            intro _ hw'
            obtain ⟨sv, hw''⟩ := hw'
            subst hw''
            go_wp2_with fail
            go_ret
            exact ⟨ret_bool (unhide HE).symm, (unhide HB2).trans (sv.h.mono (by have := (unhide HB2).size; exact this))⟩
          · have t3 : decide (s.id ≤ s'.id) = false := by have := of_decide_eq_true h2; exact decide_eq_false (by omega)
            have HE : Hid (allB (nxB xs) (k + 1) = true) := allB_step (unhide hM) (by rw [nxB_next (unhide hx) hk0 (unhide HX'), h1, h2]; rfl)
            clear hx hM
            go_wp2_with fail
            have hh := unhide HH
            have h0 := fun t : Abv (wr.alloc (.cells #[.int .i64 s.id, .string s.nm, .int .i64 s.x, .int .i64 s.y, .int .i64 s.gn, .int .i64 s.lw, .int .i64 s.hg, .int .i64 s.ut] 26)) => (hh t).c0
            have h1 := fun t : Abv (wr.alloc (.cells #[.int .i64 s.id, .string s.nm, .int .i64 s.x, .int .i64 s.y, .int .i64 s.gn, .int .i64 s.lw, .int .i64 s.hg, .int .i64 s.ut] 26)) => (hh t).c1
            have h2 := fun t : Abv (wr.alloc (.cells #[.int .i64 s.id, .string s.nm, .int .i64 s.x, .int .i64 s.y, .int .i64 s.gn, .int .i64 s.lw, .int .i64 s.hg, .int .i64 s.ut] 26)) => (hh t).c2
            have h3 := fun t : Abv (wr.alloc (.cells #[.int .i64 s.id, .string s.nm, .int .i64 s.x, .int .i64 s.y, .int .i64 s.gn, .int .i64 s.lw, .int .i64 s.hg, .int .i64 s.ut] 26)) => (hh t).c3
            have h4 := fun t : Abv (wr.alloc (.cells #[.int .i64 s.id, .string s.nm, .int .i64 s.x, .int .i64 s.y, .int .i64 s.gn, .int .i64 s.lw, .int .i64 s.hg, .int .i64 s.ut] 26)) => (hh t).c4
            have h5 := fun t : Abv (wr.alloc (.cells #[.int .i64 s.id, .string s.nm, .int .i64 s.x, .int .i64 s.y, .int .i64 s.gn, .int .i64 s.lw, .int .i64 s.hg, .int .i64 s.ut] 26)) => (hh t).c5
            have h6 := fun t : Abv (wr.alloc (.cells #[.int .i64 s.id, .string s.nm, .int .i64 s.x, .int .i64 s.y, .int .i64 s.gn, .int .i64 s.lw, .int .i64 s.hg, .int .i64 s.ut] 26)) => (hh t).c6
            have h7 := fun t : Abv (wr.alloc (.cells #[.int .i64 s.id, .string s.nm, .int .i64 s.x, .int .i64 s.y, .int .i64 s.gn, .int .i64 s.lw, .int .i64 s.hg, .int .i64 s.ut] 26)) => (hh t).c7
            clear hh
            have pp := unhide HP
            have p0 := fun t : Abv (wr.alloc (.cells #[.int .i64 s.id, .string s.nm, .int .i64 s.x, .int .i64 s.y, .int .i64 s.gn, .int .i64 s.lw, .int .i64 s.hg, .int .i64 s.ut] 26)) => (pp t).c0
            have p1 := fun t : Abv (wr.alloc (.cells #[.int .i64 s.id, .string s.nm, .int .i64 s.x, .int .i64 s.y, .int .i64 s.gn, .int .i64 s.lw, .int .i64 s.hg, .int .i64 s.ut] 26)) => (pp t).c1
            have p2 := fun t : Abv (wr.alloc (.cells #[.int .i64 s.id, .string s.nm, .int .i64 s.x, .int .i64 s.y, .int .i64 s.gn, .int .i64 s.lw, .int .i64 s.hg, .int .i64 s.ut] 26)) => (pp t).c2
            have p3 := fun t : Abv (wr.alloc (.cells #[.int .i64 s.id, .string s.nm, .int .i64 s.x, .int .i64 s.y, .int .i64 s.gn, .int .i64 s.lw, .int .i64 s.hg, .int .i64 s.ut] 26)) => (pp t).c3
            have p4 := fun t : Abv (wr.alloc (.cells #[.int .i64 s.id, .string s.nm, .int .i64 s.x, .int .i64 s.y, .int .i64 s.gn, .int .i64 s.lw, .int .i64 s.hg, .int .i64 s.ut] 26)) => (pp t).c4
            have p5 := fun t : Abv (wr.alloc (.cells #[.int .i64 s.id, .string s.nm, .int .i64 s.x, .int .i64 s.y, .int .i64 s.gn, .int .i64 s.lw, .int .i64 s.hg, .int .i64 s.ut] 26)) => (pp t).c5
            have p6 := fun t : Abv (wr.alloc (.cells #[.int .i64 s.id, .string s.nm, .int .i64 s.x, .int .i64 s.y, .int .i64 s.gn, .int .i64 s.lw, .int .i64 s.hg, .int .i64 s.ut] 26)) => (pp t).c6
            have p7 := fun t : Abv (wr.alloc (.cells #[.int .i64 s.id, .string s.nm, .int .i64 s.x, .int .i64 s.y, .int .i64 s.gn, .int .i64 s.lw, .int .i64 s.hg, .int .i64 s.ut] 26)) => (pp t).c7
            clear pp
            refine wp_region_abv (wr.alloc (.cells #[.int .i64 s.id, .string s.nm, .int .i64 s.x, .int .i64 s.y, .int .i64 s.gn, .int .i64 s.lw, .int .i64 s.hg, .int .i64 s.ut] 26)) (by kernel_rfl) (by kernel_rfl) (Below.refl _ _) ?_
            repeat (go_big_quiet_step ((first | (go_at_call 18; exact Calls.abv (unhide HV _)) | (go_at_call 69; first | (with_reducible exact Calls.abv (unhide HI _)) | (with_reducible exact Calls.abv (unhide HJ _))))))
            refine wpQuiet_nil ?_
            intro _ hw'
            obtain ⟨sv, hw''⟩ := hw'
            subst hw''
            go_wp2_with fail
            go_roundw
            case rel => exact ⟨k + 1, by omega, by go_num, HE, (unhide HB2).trans (sv.h.mono (by have := (unhide HB2).size; exact this))⟩
            case measure => simp [intOf]; omega
    · obtain rfl : k = n := by omega
      have HE : Hid (lstB xs = decide ((k : Int) ≤ 10)) := by
        unfold Hid lstB
        rw [unhide HL, unhide hM, Bool.true_and]
        congr 1
        exact propext (by omega)
      clear hM
      go_wp2
      go_ret
      exact ⟨ret_bool (unhide HE).symm, unhide hB⟩
end Go.Proofs.Ytihkocplgciifaa
