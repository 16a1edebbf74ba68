/- The walks of chapter 6: differences to samples before, a bound of weighted sums, turning points: the program's and the reference's. -/
import Derived.Test.YtpklnefmjlhlnaaProg
import Derived.Test.YtpklnefmjlhlnaaFiltersB
namespace Go.Proofs.Ytpklnefmjlhlnaa
open Go.RowKit

/-! ### Comb -/
def combI (xs : List Int) (lag : Int) (i : Nat) : Int := if (i : Int) < lag then 0 else xs.getD i 0 - xs.getD (i - lag.toNat) 0
theorem smpB_range {xs : List Int} (h : smpB xs = true) {k : Nat} {x : Int} (hx : xs[k]? = some x) : -100000 ≤ x ∧ x ≤ 100000 := by
  unfold smpB at h
  simp only [Bool.and_eq_true, List.all_eq_true] at h
  exact inB_iff.1 (h.2 x (List.mem_of_getElem? hx))
theorem smpB_len {xs : List Int} (h : smpB xs = true) : xs.length ≤ 24 := by
  unfold smpB at h
  simp only [Bool.and_eq_true, decide_eq_true_eq] at h
  exact h.1
theorem askB_smp {xs : List Int} {a b c : Int} (h : askB xs a b c = true) : smpB xs = true ∧ b ≤ a ∧ a ≤ c := by
  unfold askB at h
  simp only [Bool.and_eq_true] at h
  exact ⟨h.1, inB_iff.1 h.2⟩
theorem getD_of {xs : List Int} {k : Nat} {x : Int} (hx : xs[k]? = some x) : xs.getD k 0 = x := by rw [List.getD_eq_getElem?_getD, hx]; rfl

set_option maxHeartbeats 400000 in
theorem Comb1_tell (lag : Int) (A : Option Addr) (n c : Nat) (xs : List Int) (w : World) (W0 : World) (hW0 : W0 = (w.alloc (.cells #[.slice A n c] 22)).alloc (.cells #[.int .i64 lag] 3)) (hr : RI w w.heap.size A n xs) (hs : smpB xs = true) (h0 : 1 ≤ lag) (h1 : lag ≤ 10) (hn : n ≤ 1048576) :
    TellI 29 #[.pointer (some ⟨w.heap.size + 1, 0, none⟩), .pointer (some ⟨w.heap.size, 0, none⟩)] (combI xs lag) n W0 := by
  subst hW0
  intro W i hi hb
  have hz := hb.size
  have hc1 : W.cell? ⟨w.heap.size, 0, none⟩ = some (.slice A n c) := by
    rw [hb.cell (p := ⟨w.heap.size, 0, none⟩) (by simp; omega)]
    simp
  have hc2 : W.cell? ⟨w.heap.size + 1, 0, none⟩ = some (.int .i64 lag) := by
    rw [hb.cell (p := ⟨w.heap.size + 1, 0, none⟩) (by simp)]
    simp
  have hB : Below w.heap.size w W := (((Below.refl _ w).alloc (Nat.le_refl _) _).alloc (by simp) _).trans (hb.mono (by simp; omega))
  obtain ⟨u, rfl⟩ := Int.eq_ofNat_of_zero_le (show 0 ≤ lag by omega)
  obtain ⟨ad, x, rfl, _, hx, hc⟩ := (hr.below hB).get hi
  show Calls _ _ #[.int .i64 i, .pointer (some ⟨w.heap.size + 1, 0, none⟩), .pointer (some ⟨w.heap.size, 0, none⟩)] W (fun e w' => e = .returned (.int .i64 (combI xs u i)) ∧ Below W.heap.size W w')
  by_cases hlt : i < u
  · have e : combI xs u i = 0 := by unfold combI; rw [if_pos (by omega)]
    rw [e]
    clear e hx hb hB hr hz hs
    go_enter Try.func29, Try.ntmps29
    go_wp2
    go_ret
    exact ⟨rfl, Below.refl _ _⟩
  · obtain ⟨ae, y, had, _, hy, hd⟩ := (hr.below hB).get (show i - u < n by omega)
    obtain rfl : ad = ae := by simpa using had
    have e : combI xs u i = x - y := by
      unfold combI
      rw [if_neg (by omega), getD_of (unhide hx), Int.toNat_natCast, getD_of (unhide hy)]
    have hxb := smpB_range hs (unhide hx)
    have hyb := smpB_range hs (unhide hy)
    obtain ⟨hx1, hx2⟩ := hxb
    obtain ⟨hy1, hy2⟩ := hyb
    rw [e]
    clear e hx hb hB hr hz hs hy had
    have hl1 : (i : Int) < (n : Int) := by omega
    have hl2 : (i : Int) - (u : Int) < (n : Int) := by omega
    have hl3 : 0 ≤ (i : Int) - (u : Int) := by omega
    have e3 : ((i : Int) - (u : Int)).toNat = i - u := by omega
    go_enter Try.func29, Try.ntmps29
    go_wp2
    go_quiet (fail)
    go_wp2
    go_ret
    exact ⟨rfl, below_drewN (Below.refl _ _) _⟩

set_option maxHeartbeats 1000000 in
theorem implComb_any (A : Option Addr) (n c : Nat) (xs : List Int) (lag : Int) (w : World) (hr : RI w w.heap.size A n xs) (hn : n ≤ 1048576) :
    Calls Try.prog 17 #[.slice A n c, .int .i64 lag] w (RetIB w (if askB xs lag 1 10 then (List.range xs.length).map (combI xs lag) else []) (askB xs lag 1 10)) := by
  have T := fun hs h0 h1 => Comb1_tell lag A n c xs w _ rfl hr hs h0 h1 hn
  have R0 := (((hr.alloc (Nat.le_refl _) (.cells #[.slice A n c] 22)).more (by simp : w.heap.size ≤ (w.alloc (.cells #[.slice A n c] 22)).heap.size)).alloc (Nat.le_refl _) (.cells #[.int .i64 lag] 3)).more (by simp : (w.alloc (.cells #[.slice A n c] 22)).heap.size ≤ ((w.alloc (.cells #[.slice A n c] 22)).alloc (.cells #[.int .i64 lag] 3)).heap.size)
  have HS := hide (areSamples_any A n c xs _ R0 (by omega))
  have B0 : Hid (Below w.heap.size w ((w.alloc (.cells #[.slice A n c] 22)).alloc (.cells #[.int .i64 lag] 3))) := ((Below.refl _ w).alloc (Nat.le_refl _) _).alloc (by simp) _
  have HT := hide T
  have HL := hide hr.len
  clear T R0 hr
  unfold askB
  cases h1 : smpB xs
  · go_enter Try.func17, Try.ntmps17
    go_wp2_with (go_at_call 25; refine (unhide HS).mono ?_; rintro e w1 ⟨rfl, hb⟩; obtain ⟨hcc, _⟩ := bcell hb; have HB := hide hb; clear hb)
    go_ret2
    exact ⟨none, 0, 0, rfl, OwnI.nil _ _, (unhide B0).trans ((unhide HB).mono (by simp; omega))⟩
  · cases h2 : inB lag 1 10
    · go_enter Try.func17, Try.ntmps17
      go_wp2_with (first
        | (go_at_call 25; refine (unhide HS).mono ?_; rintro e w1 ⟨rfl, hb⟩; obtain ⟨hcc, _⟩ := bcell hb; have HB := hide hb; clear hb)
        | (go_at_call 26; refine (in_any _ _ _ _).mono ?_; rintro e w2 ⟨rfl, rfl⟩))
      go_ret2
      exact ⟨none, 0, 0, rfl, OwnI.nil _ _, (unhide B0).trans ((unhide HB).mono (by simp; omega))⟩
    · obtain ⟨h3, h4⟩ := inB_iff.1 h2
      have HT2 := hide (unhide HT h1 h3 h4)
      go_enter Try.func17, Try.ntmps17
      go_wp2_with (first
        | (go_at_call 25; refine (unhide HS).mono ?_; rintro e w1 ⟨rfl, hb⟩; obtain ⟨hcc, _⟩ := bcell hb; have HB := hide hb; clear hb)
        | (go_at_call 26; refine (in_any _ _ _ _).mono ?_; rintro e w2 ⟨rfl, rfl⟩)
        | (go_at_call 27; refine (each_any 29 _ (combI xs lag) (enters_of Try.func29 (by kernel_rfl) rfl) A n c _ (TellI.later (unhide HT2) (unhide HB)) hn).mono ?_; rintro e w3 ⟨A3, n3, c3, rfl, hO3, hB3⟩; have HO := hide hO3; have HB3 := hide hB3; clear hO3 hB3))
      go_ret2
      have hz : w.heap.size ≤ w1.heap.size := Nat.le_trans (unhide B0).size (unhide HB).size
      rw [← unhide HL] at HO
      exact ⟨A3, n3, c3, rfl, (unhide HO).less hz, ((unhide B0).trans ((unhide HB).mono (by simp; omega))).trans ((unhide HB3).mono hz)⟩

set_option maxHeartbeats 1000000 in
theorem specComb_any (A : Option Addr) (n c : Nat) (xs : List Int) (lag : Int) (w : World) (hr : RI w w.heap.size A n xs) (hn : n ≤ 1048576) :
    Calls Try.prog 16 #[.slice A n c, .int .i64 lag] w (RetIB w (if askB xs lag 1 10 then (List.range xs.length).map (combI xs lag) else []) (askB xs lag 1 10)) := by
  have R0 := hr.alloc (Nat.le_refl _) (.cells #[] 3)
  have HA := hide (l6Asked_any A n c _ xs lag 1 10 _ R0 hn)
  have HR := hide hr
  clear R0 hr
  cases h1 : askB xs lag 1 10
  · go_enter Try.func16, Try.ntmps16
    go_wp2_with (go_at_call 22; refine (unhide HA).mono ?_; rintro e w1 ⟨rfl, rfl⟩)
    go_ret2
    exact ⟨_, _, _, rfl, OwnI.empty _ (Nat.le_refl _), (Below.refl _ _).alloc (Nat.le_refl _) _⟩
  · obtain ⟨hs, h3, h4⟩ := askB_smp h1
    have HSM := hide hs
    clear hs
    obtain ⟨u, rfl⟩ := Int.eq_ofNat_of_zero_le (show 0 ≤ lag by omega)
    go_enter Try.func16, Try.ntmps16
    go_wp2_with (go_at_call 22; refine (unhide HA).mono ?_; rintro e w1 ⟨rfl, rfl⟩)
    go_loopw [6, 7] (fun v i wr => ∃ (k : Nat) (A' : Option Addr) (c' : Nat), k ≤ n ∧ i = .int .i64 k ∧ v = .slice A' k c' ∧ Hid (OwnI wr w.heap.size A' k c' ((List.range k).map (combI xs u))) ∧ Hid (Below w.heap.size w wr)) (fun _ i _ => n - (intOf i).toNat)
    case atStart => exact ⟨0, _, _, Nat.zero_le _, rfl, rfl, by simpa [Hid] using OwnI.empty _ (Nat.le_refl _), (Below.refl _ _).alloc (Nat.le_refl _) _⟩
    case round =>
      obtain ⟨k, A', c', hk, rfl, rfl, hO, hB⟩ := hrel
      by_cases hlt : k < n
      · obtain ⟨ad, x, rfl, _, hx, hc⟩ := ((unhide HR).below (unhide hB)).get hlt
        have HX : Hid (∀ y, combI xs u k = y → (List.range (k + 1)).map (combI xs u) = (List.range k).map (combI xs u) ++ [y]) := by
          intro y hy
          rw [List.range_succ, List.map_append, List.map_singleton, hy]
        by_cases hku : k < u
        · have HC : Hid (combI xs u k = 0) := by unfold Hid combI; rw [if_pos (by omega)]
          clear hx
          go_wp2_with (at_builtin; refine append_int _ rfl _ _ rfl w A' k c' ((List.range k).map (combI xs u)) rfl ((unhide hO).alloc _) ((unhide hB).alloc (unhide hB).size _) _ 0 rfl (by simp) (by omega) ?_; intro A2 c2 w2 hO2 hB2)
          rw [← unhide HX _ (unhide HC)] at hO2
          have HO2 := hide hO2
          have HB2 := hide hB2
          clear hO2 hB2 hO hB HX HC
          go_wp2
          go_roundw
          case rel => exact ⟨k + 1, A2, c2, by omega, by go_num, rfl, HO2, HB2⟩
          case measure => simp [intOf]; omega
        · obtain ⟨ae, y, had, _, hy, hd⟩ := ((unhide HR).below (unhide hB)).get (show k - u < n by omega)
          obtain rfl : ad = ae := by simpa using had
          have HC : Hid (combI xs u k = x - y) := by
            unfold Hid combI
            rw [if_neg (by omega), getD_of (unhide hx), Int.toNat_natCast, getD_of (unhide hy)]
          obtain ⟨hx1, hx2⟩ := smpB_range (unhide HSM) (unhide hx)
          obtain ⟨hy1, hy2⟩ := smpB_range (unhide HSM) (unhide hy)
          have hl1 : (k : Int) < (n : Int) := by omega
          have hl2 : (k : Int) - (u : Int) < (n : Int) := by omega
          have hl3 : 0 ≤ (k : Int) - (u : Int) := by omega
          have e3 : ((k : Int) - (u : Int)).toNat = k - u := by omega
          clear hx hy had
          go_wp2
          go_quiet (fail)
          go_wp2_with (at_builtin; refine append_int _ rfl _ _ rfl w A' k c' ((List.range k).map (combI xs u)) rfl ((OwnI.below (unhide hO) (below_drewN (Below.refl _ _) _) (Nat.le_refl _)).alloc _) ((below_drewN (unhide hB) _).alloc (unhide hB).size _) _ (x - y) rfl (cellNew _ _ _) (by omega) ?_; intro A2 c2 w2 hO2 hB2)
          rw [← unhide HX _ (unhide HC)] at hO2
          have HO2 := hide hO2
          have HB2 := hide hB2
          clear hO2 hB2 hO hB HX HC
          go_wp2
          go_roundw
          case rel => exact ⟨k + 1, A2, c2, by omega, by go_num, rfl, HO2, HB2⟩
          case measure => simp [intOf]; omega
      · have e : k = n := by omega
        subst e
        go_wp2
        go_ret2
        have hO2 := unhide hO
        exact ⟨A', k, c', rfl, by simpa [(unhide HR).len] using hO2, unhide hB⟩
end Go.Proofs.Ytpklnefmjlhlnaa
