/- Chapter 5, the walks: the true time of a shown tick; the first shown tick of a true time: the program's and the reference's. (By gen_clkC.py.) -/
import Derived.Test.YtmpgafanlgnpeaaProg
import Derived.Test.YtmpgafanlgnpeaaClkB
namespace Go.Proofs.Ytmpgafanlgnpeaa
open Go.RowKit

/-- the true time, whether it is a tick -/
def tickR (xs : List (Int × Int)) (s : Int) : Int × Bool := if (trkB xs && inB s 0 1000000 && inB (lineF xs s) 0 1000000) = true then (lineF xs s, true) else (0, false)
/-- the search between lo and hi for the first number at which f is at least t -/
def bsF (f : Int → Int) (t lo hi : Int) : Int :=
  if _h : lo < hi then (if t ≤ f ((lo + hi) / 2) then bsF f t lo ((lo + hi) / 2) else bsF f t ((lo + hi) / 2 + 1) hi) else lo
termination_by (hi - lo).toNat
decreasing_by all_goals omega
theorem bsF_low {f : Int → Int} {t lo hi : Int} (h : lo < hi) (h2 : t ≤ f ((lo + hi) / 2)) : bsF f t lo ((lo + hi) / 2) = bsF f t lo hi := by
  conv => rhs; rw [bsF]
  rw [dif_pos h, if_pos h2]
theorem bsF_high {f : Int → Int} {t lo hi : Int} (h : lo < hi) (h2 : ¬ t ≤ f ((lo + hi) / 2)) : bsF f t ((lo + hi) / 2 + 1) hi = bsF f t lo hi := by
  conv => rhs; rw [bsF]
  rw [dif_pos h, if_neg h2]
theorem bsF_end {f : Int → Int} {t lo hi : Int} (h : ¬ lo < hi) : bsF f t lo hi = lo := by rw [bsF, dif_neg h]
/-- the first shown tick, whether there is one -/
def shownR (xs : List (Int × Int)) (t : Int) : Int × Bool :=
  if (trkB xs && inB t 0 1000000 && decide (bsF (lineF xs) t 0 1000001 ≤ 1000000) && inB (lineF xs (bsF (lineF xs) t 0 1000001)) 0 1000000) = true then (bsF (lineF xs) t 0 1000001, true) else (0, false)
theorem below_sub {w a b : World} (h : Below w.heap.size w a) (hb : Below w.heap.size w b) : Below w.heap.size w b := hb

set_option maxHeartbeats 4000000 in
set_option maxRecDepth 100000 in
theorem implTrueTick_any (A : Option Addr) (n c : Nat) (xs : List (Int × Int)) (s : Int) (w : World) (hr : RP w w.heap.size A n xs) (hn : n ≤ 2097152) :
    Calls Try.prog 21 #[.slice A n c, .int .i64 s] w (RetNB w (tickR xs s).1 (tickR xs s).2) := by
  have HG := hide (implIsTrack_any A n c xs w hr (by omega))
  have HL := hide hr.len
  have HR := hide hr
  clear hr
  rcases h1 : trkB xs with _ | _
  · have HRR : Hid (tickR xs s = (0, false)) := by unfold Hid tickR; rw [h1]; rfl
    go_enter Try.func21, Try.ntmps21
    go_wp2_with fail
    rw [h1] at HG
    refine (unhide HG).mono ?_
    rintro e w1 ⟨rfl, hb⟩
    have HB1 := hide hb
    clear hb
    go_wp2_with fail
    go_ret2
    exact ⟨by rw [unhide HRR]; rfl, unhide HB1⟩
  · obtain ⟨ht, l2, l10⟩ := trk_of h1
    rw [unhide HL] at l2 l10
    rcases h2 : inB s 0 1000000 with _ | _
    · have HRR : Hid (tickR xs s = (0, false)) := by unfold Hid tickR; rw [h1, h2]; rfl
      clear ht
      go_enter Try.func21, Try.ntmps21
      go_wp2_with fail
      rw [h1] at HG
      refine (unhide HG).mono ?_
      rintro e w1 ⟨rfl, hb⟩
      have HB1 := hide hb
      clear hb
      go_wp2_with fail
      refine (isTick_any s _).mono ?_
      rintro e w9 ⟨rfl, rfl⟩
      rw [h2]
      go_wp2_with fail
      go_ret2
      exact ⟨by rw [unhide HRR]; rfl, unhide HB1⟩
    · obtain ⟨s0, s1⟩ := inB_iff.1 h2
      have HT := hide (fun (W : World) (hb : Below w.heap.size w W) => trueTick_any A n c xs s W (((unhide HR).below hb).more hb.size) hn l2 ht ⟨by omega, by omega⟩)
      clear ht
      rcases h3 : inB (lineF xs s) 0 1000000 with _ | _
      · have HRR : Hid (tickR xs s = (0, false)) := by unfold Hid tickR; rw [h1, h2, h3]; rfl
        generalize lineF xs s = L at *
        go_enter Try.func21, Try.ntmps21
        go_wp2_with fail
        rw [h1] at HG
        refine (unhide HG).mono ?_
        rintro e w1 ⟨rfl, hb⟩
        have HB1 := hide hb
        clear hb
        go_wp2_with fail
        refine (isTick_any s _).mono ?_
        rintro e w9 ⟨rfl, rfl⟩
        rw [h2]
        go_wp2_with fail
        refine (unhide HT _ (unhide HB1)).mono ?_
        rintro e w2 ⟨rfl, hb⟩
        have HB2 := hide (below_next (unhide HB1) hb)
        clear hb
        go_wp2_with fail
        refine (isTick_any L _).mono ?_
        rintro e w9 ⟨rfl, rfl⟩
        rw [h3]
        go_wp2_with fail
        go_ret2
        exact ⟨by rw [unhide HRR]; rfl, unhide HB2⟩
      · have HRR : Hid (tickR xs s = (lineF xs s, true)) := by unfold Hid tickR; rw [h1, h2, h3]; rfl
        generalize lineF xs s = L at *
        go_enter Try.func21, Try.ntmps21
        go_wp2_with fail
        rw [h1] at HG
        refine (unhide HG).mono ?_
        rintro e w1 ⟨rfl, hb⟩
        have HB1 := hide hb
        clear hb
        go_wp2_with fail
        refine (isTick_any s _).mono ?_
        rintro e w9 ⟨rfl, rfl⟩
        rw [h2]
        go_wp2_with fail
        refine (unhide HT _ (unhide HB1)).mono ?_
        rintro e w2 ⟨rfl, hb⟩
        have HB2 := hide (below_next (unhide HB1) hb)
        clear hb
        go_wp2_with fail
        refine (isTick_any L _).mono ?_
        rintro e w9 ⟨rfl, rfl⟩
        rw [h3]
        go_wp2_with fail
        go_ret2
        exact ⟨by rw [unhide HRR]; rfl, unhide HB2⟩

set_option maxHeartbeats 4000000 in
set_option maxRecDepth 100000 in
theorem specTrueTick_any (A : Option Addr) (n c : Nat) (xs : List (Int × Int)) (s : Int) (w : World) (hr : RP w w.heap.size A n xs) (hn : n ≤ 2097152) :
    Calls Try.prog 20 #[.slice A n c, .int .i64 s] w (RetNB w (tickR xs s).1 (tickR xs s).2) := by
  have HG := hide (l5Good_any A n c xs w hr (by omega))
  have HL := hide hr.len
  have HR := hide hr
  clear hr
  rcases h1 : trkB xs with _ | _
  · have HRR : Hid (tickR xs s = (0, false)) := by unfold Hid tickR; rw [h1]; rfl
    go_enter Try.func20, Try.ntmps20
    go_wp2_with fail
    rw [h1] at HG
    refine (unhide HG).mono ?_
    rintro e w1 ⟨rfl, hb⟩
    have HB1 := hide hb
    clear hb
    go_wp2_with fail
    go_ret2
    exact ⟨by rw [unhide HRR]; rfl, unhide HB1⟩
  · obtain ⟨ht, l2, l10⟩ := trk_of h1
    rw [unhide HL] at l2 l10
    rcases h2 : inB s 0 1000000 with _ | _
    · have HRR : Hid (tickR xs s = (0, false)) := by unfold Hid tickR; rw [h1, h2]; rfl
      clear ht
      go_enter Try.func20, Try.ntmps20
      go_wp2_with fail
      rw [h1] at HG
      refine (unhide HG).mono ?_
      rintro e w1 ⟨rfl, hb⟩
      have HB1 := hide hb
      clear hb
      go_wp2_with fail
      refine (l2Tick_any s _).mono ?_
      rintro e w9 ⟨rfl, rfl⟩
      rw [h2]
      go_wp2_with fail
      go_ret2
      exact ⟨by rw [unhide HRR]; rfl, unhide HB1⟩
    · obtain ⟨s0, s1⟩ := inB_iff.1 h2
      have HT := hide (fun (W : World) (hb : Below w.heap.size w W) => l5Line_any A n c xs s W (((unhide HR).below hb).more hb.size) hn l2 ht ⟨by omega, by omega⟩)
      clear ht
      rcases h3 : inB (lineF xs s) 0 1000000 with _ | _
      · have HRR : Hid (tickR xs s = (0, false)) := by unfold Hid tickR; rw [h1, h2, h3]; rfl
        generalize lineF xs s = L at *
        go_enter Try.func20, Try.ntmps20
        go_wp2_with fail
        rw [h1] at HG
        refine (unhide HG).mono ?_
        rintro e w1 ⟨rfl, hb⟩
        have HB1 := hide hb
        clear hb
        go_wp2_with fail
        refine (l2Tick_any s _).mono ?_
        rintro e w9 ⟨rfl, rfl⟩
        rw [h2]
        go_wp2_with fail
        refine (unhide HT _ (unhide HB1)).mono ?_
        rintro e w2 ⟨rfl, hb⟩
        have HB2 := hide (below_next (unhide HB1) hb)
        clear hb
        go_wp2_with fail
        refine (l2Tick_any L _).mono ?_
        rintro e w9 ⟨rfl, rfl⟩
        rw [h3]
        go_wp2_with fail
        go_ret2
        exact ⟨by rw [unhide HRR]; rfl, unhide HB2⟩
      · have HRR : Hid (tickR xs s = (lineF xs s, true)) := by unfold Hid tickR; rw [h1, h2, h3]; rfl
        generalize lineF xs s = L at *
        go_enter Try.func20, Try.ntmps20
        go_wp2_with fail
        rw [h1] at HG
        refine (unhide HG).mono ?_
        rintro e w1 ⟨rfl, hb⟩
        have HB1 := hide hb
        clear hb
        go_wp2_with fail
        refine (l2Tick_any s _).mono ?_
        rintro e w9 ⟨rfl, rfl⟩
        rw [h2]
        go_wp2_with fail
        refine (unhide HT _ (unhide HB1)).mono ?_
        rintro e w2 ⟨rfl, hb⟩
        have HB2 := hide (below_next (unhide HB1) hb)
        clear hb
        go_wp2_with fail
        refine (l2Tick_any L _).mono ?_
        rintro e w9 ⟨rfl, rfl⟩
        rw [h3]
        go_wp2_with fail
        refine (unhide HT _ (unhide HB2)).mono ?_
        rintro e w3 ⟨rfl, hb⟩
        have HB3 := hide (below_next (unhide HB2) hb)
        clear hb
        go_wp2_with fail
        go_ret2
        exact ⟨by rw [unhide HRR]; rfl, unhide HB3⟩

set_option maxHeartbeats 4000000 in
set_option maxRecDepth 100000 in
theorem implShownTick_any (A : Option Addr) (n c : Nat) (xs : List (Int × Int)) (s : Int) (w : World) (hr : RP w w.heap.size A n xs) (hn : n ≤ 2097152) :
    Calls Try.prog 23 #[.slice A n c, .int .i64 s] w (RetNB w (shownR xs s).1 (shownR xs s).2) := by
  have HG := hide (implIsTrack_any A n c xs w hr (by omega))
  have HL := hide hr.len
  have HR := hide hr
  clear hr
  rcases h1 : trkB xs with _ | _
  · have HRR : Hid (shownR xs s = (0, false)) := by unfold Hid shownR; rw [h1]; rfl
    go_enter Try.func23, Try.ntmps23
    go_wp2_with fail
    rw [h1] at HG
    refine (unhide HG).mono ?_
    rintro e w1 ⟨rfl, hb⟩
    have HB1 := hide hb
    clear hb
    go_wp2_with fail
    go_ret2
    exact ⟨by rw [unhide HRR]; rfl, unhide HB1⟩
  · obtain ⟨ht, l2, l10⟩ := trk_of h1
    rw [unhide HL] at l2 l10
    rcases h2 : inB s 0 1000000 with _ | _
    · have HRR : Hid (shownR xs s = (0, false)) := by unfold Hid shownR; rw [h1, h2]; rfl
      clear ht
      go_enter Try.func23, Try.ntmps23
      go_wp2_with fail
      rw [h1] at HG
      refine (unhide HG).mono ?_
      rintro e w1 ⟨rfl, hb⟩
      have HB1 := hide hb
      clear hb
      go_wp2_with fail
      refine (isTick_any s _).mono ?_
      rintro e w9 ⟨rfl, rfl⟩
      rw [h2]
      go_wp2_with fail
      go_ret2
      exact ⟨by rw [unhide HRR]; rfl, unhide HB1⟩
    · obtain ⟨s0, s1⟩ := inB_iff.1 h2
      have HT := hide (fun (W : World) (hb : Below w.heap.size w W) (x : Int) (h0 : 0 ≤ x) (h1 : x ≤ 1000001) => trueTick_any A n c xs x W (((unhide HR).below hb).more hb.size) hn l2 ht ⟨by omega, by omega⟩)
      clear ht
      have HRR : Hid (shownR xs s = if (decide (bsF (lineF xs) s 0 1000001 ≤ 1000000) && inB (lineF xs (bsF (lineF xs) s 0 1000001)) 0 1000000) = true then (bsF (lineF xs) s 0 1000001, true) else (0, false)) := by unfold Hid shownR; rw [h1, h2]; simp only [Bool.true_and]
      generalize lineF xs = f at *
      obtain ⟨R, hR⟩ : ∃ R, R = bsF f s 0 1000001 := ⟨_, rfl⟩
      rw [← hR] at HRR
      have HBS := hide hR.symm
      clear hR
      go_enter Try.func23, Try.ntmps23
      go_wp2_with fail
      rw [h1] at HG
      refine (unhide HG).mono ?_
      rintro e w1 ⟨rfl, hb⟩
      have HB1 := hide hb
      clear hb
      go_wp2_with fail
      refine (isTick_any s _).mono ?_
      rintro e w9 ⟨rfl, rfl⟩
      rw [h2]
      go_wp2_with fail
      go_loopw [6, 7] (fun a b wr => ∃ lo hi : Int, a = .int .i64 lo ∧ b = .int .i64 hi ∧ 0 ≤ lo ∧ lo ≤ hi ∧ hi ≤ 1000001 ∧ Hid (bsF f s lo hi = R) ∧ Hid (Below w.heap.size w wr)) (fun a b _ => (intOf b - intOf a).toNat)
      case atStart => exact ⟨0, 1000001, rfl, rfl, by omega, by omega, by omega, HBS, HB1⟩
      case round =>
        obtain ⟨lo, hi, rfl, rfl, b0, b1, b2, hS, hB⟩ := hrel
        by_cases hlt : lo < hi
        · have m0 : 0 ≤ (lo + hi) / 2 := by omega
          have m1 : (lo + hi) / 2 ≤ 1000000 := by omega
          have m2 : lo ≤ (lo + hi) / 2 := by omega
          have m3 : (lo + hi) / 2 < hi := by omega
          have HC := hide (unhide HT wr (unhide hB) ((lo + hi) / 2) m0 (by omega))
          cases hd : decide (s ≤ f ((lo + hi) / 2))
          · have HS2 := hide ((bsF_high hlt (of_decide_eq_false hd)).trans (unhide hS))
            clear hS
            generalize f ((lo + hi) / 2) = L at *
            go_wp2_with fail
            refine (unhide HC).mono ?_
            rintro e w2 ⟨rfl, hb⟩
            have HB2 := hide hb
            clear hb
            go_wp2_with fail
            go_roundw
            case rel => exact ⟨(lo + hi) / 2 + 1, hi, by go_num, rfl, by omega, by omega, b2, HS2, below_next (unhide hB) (unhide HB2)⟩
            case measure => simp [intOf]; omega
          · have HS2 := hide ((bsF_low hlt (of_decide_eq_true hd)).trans (unhide hS))
            clear hS
            generalize f ((lo + hi) / 2) = L at *
            go_wp2_with fail
            refine (unhide HC).mono ?_
            rintro e w2 ⟨rfl, hb⟩
            have HB2 := hide hb
            clear hb
            go_wp2_with fail
            go_roundw
            case rel => exact ⟨lo, (lo + hi) / 2, rfl, rfl, b0, m2, by omega, HS2, below_next (unhide hB) (unhide HB2)⟩
            case measure => simp [intOf]; omega
        · have HS2 := hide ((bsF_end hlt).symm.trans (unhide hS))
          obtain rfl := unhide HS2
          clear hS HS2
          obtain rfl : lo = hi := by omega
          clear hlt b1
          cases h4 : decide (lo ≤ 1000000)
          · have h5 := of_decide_eq_false h4
            have HR2 : Hid (shownR xs s = (0, false)) := by unfold Hid; rw [unhide HRR, h4]; rfl
            go_wp2_with fail
            go_ret2
            exact ⟨by rw [unhide HR2]; rfl, unhide hB⟩
          · have h5 := of_decide_eq_true h4
            have HC := hide (unhide HT wr (unhide hB) lo b0 b2)
            rcases h3 : inB (f lo) 0 1000000 with _ | _
            · have HR2 : Hid (shownR xs s = (0, false)) := by unfold Hid; rw [unhide HRR, h4, h3]; rfl
              generalize f lo = L at *
              go_wp2_with fail
              refine (unhide HC).mono ?_
              rintro e w2 ⟨rfl, hb⟩
              have HB2 := hide hb
              clear hb
              go_wp2_with fail
              refine (isTick_any L _).mono ?_
              rintro e w9 ⟨rfl, rfl⟩
              rw [h3]
              go_wp2_with fail
              go_ret2
              exact ⟨by rw [unhide HR2]; rfl, below_next (unhide hB) (unhide HB2)⟩
            · have HR2 : Hid (shownR xs s = (lo, true)) := by unfold Hid; rw [unhide HRR, h4, h3]; rfl
              generalize f lo = L at *
              go_wp2_with fail
              refine (unhide HC).mono ?_
              rintro e w2 ⟨rfl, hb⟩
              have HB2 := hide hb
              clear hb
              go_wp2_with fail
              refine (isTick_any L _).mono ?_
              rintro e w9 ⟨rfl, rfl⟩
              rw [h3]
              go_wp2_with fail
              go_ret2
              exact ⟨by rw [unhide HR2]; rfl, below_next (unhide hB) (unhide HB2)⟩

set_option maxHeartbeats 4000000 in
set_option maxRecDepth 100000 in
theorem specShownTick_any (A : Option Addr) (n c : Nat) (xs : List (Int × Int)) (s : Int) (w : World) (hr : RP w w.heap.size A n xs) (hn : n ≤ 2097152) :
    Calls Try.prog 22 #[.slice A n c, .int .i64 s] w (RetNB w (shownR xs s).1 (shownR xs s).2) := by
  have HG := hide (l5Good_any A n c xs w hr (by omega))
  have HL := hide hr.len
  have HR := hide hr
  clear hr
  rcases h1 : trkB xs with _ | _
  · have HRR : Hid (shownR xs s = (0, false)) := by unfold Hid shownR; rw [h1]; rfl
    go_enter Try.func22, Try.ntmps22
    go_wp2_with fail
    rw [h1] at HG
    refine (unhide HG).mono ?_
    rintro e w1 ⟨rfl, hb⟩
    have HB1 := hide hb
    clear hb
    go_wp2_with fail
    go_ret2
    exact ⟨by rw [unhide HRR]; rfl, unhide HB1⟩
  · obtain ⟨ht, l2, l10⟩ := trk_of h1
    rw [unhide HL] at l2 l10
    rcases h2 : inB s 0 1000000 with _ | _
    · have HRR : Hid (shownR xs s = (0, false)) := by unfold Hid shownR; rw [h1, h2]; rfl
      clear ht
      go_enter Try.func22, Try.ntmps22
      go_wp2_with fail
      rw [h1] at HG
      refine (unhide HG).mono ?_
      rintro e w1 ⟨rfl, hb⟩
      have HB1 := hide hb
      clear hb
      go_wp2_with fail
      refine (l2Tick_any s _).mono ?_
      rintro e w9 ⟨rfl, rfl⟩
      rw [h2]
      go_wp2_with fail
      go_ret2
      exact ⟨by rw [unhide HRR]; rfl, unhide HB1⟩
    · obtain ⟨s0, s1⟩ := inB_iff.1 h2
      have HT := hide (fun (W : World) (hb : Below w.heap.size w W) (x : Int) (h0 : 0 ≤ x) (h1 : x ≤ 1000001) => l5Line_any A n c xs x W (((unhide HR).below hb).more hb.size) hn l2 ht ⟨by omega, by omega⟩)
      clear ht
      have HRR : Hid (shownR xs s = if (decide (bsF (lineF xs) s 0 1000001 ≤ 1000000) && inB (lineF xs (bsF (lineF xs) s 0 1000001)) 0 1000000) = true then (bsF (lineF xs) s 0 1000001, true) else (0, false)) := by unfold Hid shownR; rw [h1, h2]; simp only [Bool.true_and]
      generalize lineF xs = f at *
      obtain ⟨R, hR⟩ : ∃ R, R = bsF f s 0 1000001 := ⟨_, rfl⟩
      rw [← hR] at HRR
      have HBS := hide hR.symm
      clear hR
      go_enter Try.func22, Try.ntmps22
      go_wp2_with fail
      rw [h1] at HG
      refine (unhide HG).mono ?_
      rintro e w1 ⟨rfl, hb⟩
      have HB1 := hide hb
      clear hb
      go_wp2_with fail
      refine (l2Tick_any s _).mono ?_
      rintro e w9 ⟨rfl, rfl⟩
      rw [h2]
      go_wp2_with fail
      go_loopw [6, 7] (fun a b wr => ∃ lo hi : Int, a = .int .i64 lo ∧ b = .int .i64 hi ∧ 0 ≤ lo ∧ lo ≤ hi ∧ hi ≤ 1000001 ∧ Hid (bsF f s lo hi = R) ∧ Hid (Below w.heap.size w wr)) (fun a b _ => (intOf b - intOf a).toNat)
      case atStart => exact ⟨0, 1000001, rfl, rfl, by omega, by omega, by omega, HBS, HB1⟩
      case round =>
        obtain ⟨lo, hi, rfl, rfl, b0, b1, b2, hS, hB⟩ := hrel
        by_cases hlt : lo < hi
        · have m0 : 0 ≤ (lo + hi) / 2 := by omega
          have m1 : (lo + hi) / 2 ≤ 1000000 := by omega
          have m2 : lo ≤ (lo + hi) / 2 := by omega
          have m3 : (lo + hi) / 2 < hi := by omega
          have HC := hide (unhide HT wr (unhide hB) ((lo + hi) / 2) m0 (by omega))
          cases hd : decide (s ≤ f ((lo + hi) / 2))
          · have HS2 := hide ((bsF_high hlt (of_decide_eq_false hd)).trans (unhide hS))
            clear hS
            generalize f ((lo + hi) / 2) = L at *
            go_wp2_with fail
            refine (unhide HC).mono ?_
            rintro e w2 ⟨rfl, hb⟩
            have HB2 := hide hb
            clear hb
            go_wp2_with fail
            go_roundw
            case rel => exact ⟨(lo + hi) / 2 + 1, hi, by go_num, rfl, by omega, by omega, b2, HS2, below_next (unhide hB) (unhide HB2)⟩
            case measure => simp [intOf]; omega
          · have HS2 := hide ((bsF_low hlt (of_decide_eq_true hd)).trans (unhide hS))
            clear hS
            generalize f ((lo + hi) / 2) = L at *
            go_wp2_with fail
            refine (unhide HC).mono ?_
            rintro e w2 ⟨rfl, hb⟩
            have HB2 := hide hb
            clear hb
            go_wp2_with fail
            go_roundw
            case rel => exact ⟨lo, (lo + hi) / 2, rfl, rfl, b0, m2, by omega, HS2, below_next (unhide hB) (unhide HB2)⟩
            case measure => simp [intOf]; omega
        · have HS2 := hide ((bsF_end hlt).symm.trans (unhide hS))
          obtain rfl := unhide HS2
          clear hS HS2
          obtain rfl : lo = hi := by omega
          clear hlt b1
          cases h4 : decide (lo ≤ 1000000)
          · have h5 := of_decide_eq_false h4
            have HR2 : Hid (shownR xs s = (0, false)) := by unfold Hid; rw [unhide HRR, h4]; rfl
            go_wp2_with fail
            go_ret2
            exact ⟨by rw [unhide HR2]; rfl, unhide hB⟩
          · have h5 := of_decide_eq_true h4
            have HC := hide (unhide HT wr (unhide hB) lo b0 b2)
            rcases h3 : inB (f lo) 0 1000000 with _ | _
            · have HR2 : Hid (shownR xs s = (0, false)) := by unfold Hid; rw [unhide HRR, h4, h3]; rfl
              generalize f lo = L at *
              go_wp2_with fail
              refine (unhide HC).mono ?_
              rintro e w2 ⟨rfl, hb⟩
              have HB2 := hide hb
              clear hb
              go_wp2_with fail
              refine (l2Tick_any L _).mono ?_
              rintro e w9 ⟨rfl, rfl⟩
              rw [h3]
              go_wp2_with fail
              go_ret2
              exact ⟨by rw [unhide HR2]; rfl, below_next (unhide hB) (unhide HB2)⟩
            · have HR2 : Hid (shownR xs s = (lo, true)) := by unfold Hid; rw [unhide HRR, h4, h3]; rfl
              generalize f lo = L at *
              go_wp2_with fail
              refine (unhide HC).mono ?_
              rintro e w2 ⟨rfl, hb⟩
              have HB2 := hide hb
              clear hb
              go_wp2_with fail
              refine (l2Tick_any L _).mono ?_
              rintro e w9 ⟨rfl, rfl⟩
              rw [h3]
              go_wp2_with fail
              go_ret2
              exact ⟨by rw [unhide HR2]; rfl, below_next (unhide hB) (unhide HB2)⟩

end Go.Proofs.Ytmpgafanlgnpeaa
