/- Chapter 2, the walks: a piece of a trace: the program's and the reference's. (By gen_traceG.py.) -/
import Derived.Test.YtdpmpdhhjmbbcaaGreatDoorProg
import Derived.Test.YtdpmpdhhjmbbcaaGreatDoorTraceB
import Derived.Test.YtdpmpdhhjmbbcaaGreatDoorRetTr
import Derived.Test.YtdpmpdhhjmbbcaaGreatDoorOwn
import Derived.StillTailTactics
namespace Go.Proofs.YtdpmpdhhjmbbcaaGreatDoor
open Go.RowKit

/-- the piece, whether there is one -/
def cutR (st sa : Int) (xs : List Int) (f t : Int) : Int × Int × List Int × Bool :=
  if (goodB st sa xs && inB f sa (sa + xs.length - 1) && inB t sa (sa + xs.length - 1) && decide (f ≤ t)) = true then (st, f, (xs.drop (f - sa).toNat).take ((t - sa + 1).toNat - (f - sa).toNat), true) else (0, 0, [], false)
theorem cut_len (st sa : Int) (xs : List Int) (f t : Int) (h : xs.length ≤ 1048576) : (cutR st sa xs f t).2.2.1.length ≤ 2097152 := by
  unfold cutR
  split
  · simp only [List.length_take, List.length_drop]; omega
  · simp

set_option maxHeartbeats 4000000 in
set_option maxRecDepth 100000 in
theorem specCut_any (st sa : Int) (A : Option Addr) (n c : Nat) (xs : List Int) (f t : Int) (w : World) (hr : RI w w.heap.size A n xs) (hn : n ≤ 1048576) (hcap : n ≤ c) :
    Calls Tryz.prog 16 #[.agg #[.int .i64 st, .int .i64 sa, .slice A n c], .int .i64 f, .int .i64 t] w (RetTB w (cutR st sa xs f t).1 (cutR st sa xs f t).2.1 (cutR st sa xs f t).2.2.1 (cutR st sa xs f t).2.2.2) := by
  have HL := hide hr.len
  have HG := hide (l2Good_any st sa A n c xs ((w.alloc (.cells #[.int .i64 st, .int .i64 sa, .slice A n c] 26)).alloc (.cells #[.int .i64 0, .int .i64 0, .slice none 0 0] 26)) ((((hr.alloc (Nat.le_refl _) (.cells #[.int .i64 st, .int .i64 sa, .slice A n c] 26)).alloc (by simp) (.cells #[.int .i64 0, .int .i64 0, .slice none 0 0] 26)).more (by simp <;> omega))) hn)
  have T0 := hide (TwoBox.here w (.int .i64 st) (.int .i64 sa) (.slice A n c) (.int .i64 0) (.int .i64 0) (.slice none 0 0) 26 26)
  have HR := hide hr
  clear hr
  rcases hgo : goodB st sa xs with _ | _
  · have HRR : Hid (cutR st sa xs f t = (0, 0, [], false)) := by unfold Hid cutR; rw [hgo]; rfl
    go_enter Tryz.func16, Tryz.ntmps16
    go_wp2_with fail
    rw [hgo] at HG
    refine (unhide HG).mono ?_
    rintro e w1 ⟨rfl, hb⟩
    have T1 := hide ((unhide T0).next hb)
    have HB1 := hide (below_two hb)
    obtain ⟨s0, s1, c0, c1, c2, d0, d1, d2, f0, f1, f2⟩ := unhide T1
    clear hb
    go_wp2_with fail
    refine bodyPost_ret (v := .tuple #[.agg #[.int .i64 0, .int .i64 0, .slice none 0 0], .bool false]) (by simp [results, Tryz.results16, go_sem, *]) rfl ?_
    rw [unhide HRR]
    exact ⟨none, 0, 0, rfl, OwnI.nil _ _, below_set3 (unhide HB1) (Nat.le_succ _) _ _ _⟩
  · obtain ⟨_, ⟨g0, g1⟩, _, _⟩ := goodB_parts hgo
    rcases h2 : inB f sa (sa + n - 1) with _ | _
    · have HRR : Hid (cutR st sa xs f t = (0, 0, [], false)) := by unfold Hid cutR; rw [hgo, unhide HL, h2]; rfl
      go_enter Tryz.func16, Tryz.ntmps16
      go_wp2_with fail
      rw [hgo] at HG
      refine (unhide HG).mono ?_
      rintro e w1 ⟨rfl, hb⟩
      have T1 := hide ((unhide T0).next hb)
      have HB1 := hide (below_two hb)
      obtain ⟨s0, s1, c0, c1, c2, d0, d1, d2, f0, f1, f2⟩ := unhide T1
      clear hb
      go_wp2_with fail
      refine (l2Has_any st sa _ n c f _ g0 g1 hn).mono ?_
      rintro e w2 ⟨rfl, hb⟩
      have T2 := hide ((unhide T1).next hb)
      have HB2 := hide (below_next (unhide HB1) hb)
      clear s0 s1 c0 c1 c2 d0 d1 d2 f0 f1 f2
      obtain ⟨s0, s1, c0, c1, c2, d0, d1, d2, f0, f1, f2⟩ := unhide T2
      clear hb
      go_wp2_with fail
      refine bodyPost_ret (v := .tuple #[.agg #[.int .i64 0, .int .i64 0, .slice none 0 0], .bool false]) (by simp [results, Tryz.results16, go_sem, *]) rfl ?_
      rw [unhide HRR]
      exact ⟨none, 0, 0, rfl, OwnI.nil _ _, below_set3 (unhide HB2) (Nat.le_succ _) _ _ _⟩
    · obtain ⟨i0, i1⟩ := inB_iff.1 h2
      rcases h3 : inB t sa (sa + n - 1) with _ | _
      · have HRR : Hid (cutR st sa xs f t = (0, 0, [], false)) := by unfold Hid cutR; rw [hgo, unhide HL, h2, h3]; rfl
        go_enter Tryz.func16, Tryz.ntmps16
        go_wp2_with fail
        rw [hgo] at HG
        refine (unhide HG).mono ?_
        rintro e w1 ⟨rfl, hb⟩
        have T1 := hide ((unhide T0).next hb)
        have HB1 := hide (below_two hb)
        obtain ⟨s0, s1, c0, c1, c2, d0, d1, d2, f0, f1, f2⟩ := unhide T1
        clear hb
        go_wp2_with fail
        refine (l2Has_any st sa _ n c f _ g0 g1 hn).mono ?_
        rintro e w2 ⟨rfl, hb⟩
        have T2 := hide ((unhide T1).next hb)
        have HB2 := hide (below_next (unhide HB1) hb)
        clear s0 s1 c0 c1 c2 d0 d1 d2 f0 f1 f2
        obtain ⟨s0, s1, c0, c1, c2, d0, d1, d2, f0, f1, f2⟩ := unhide T2
        clear hb
        go_wp2_with fail
        refine (l2Has_any st sa _ n c t _ g0 g1 hn).mono ?_
        rintro e w3 ⟨rfl, hb⟩
        have T3 := hide ((unhide T2).next hb)
        have HB3 := hide (below_next (unhide HB2) hb)
        clear s0 s1 c0 c1 c2 d0 d1 d2 f0 f1 f2
        obtain ⟨s0, s1, c0, c1, c2, d0, d1, d2, f0, f1, f2⟩ := unhide T3
        clear hb
        go_wp2_with fail
        refine bodyPost_ret (v := .tuple #[.agg #[.int .i64 0, .int .i64 0, .slice none 0 0], .bool false]) (by simp [results, Tryz.results16, go_sem, *]) rfl ?_
        rw [unhide HRR]
        exact ⟨none, 0, 0, rfl, OwnI.nil _ _, below_set3 (unhide HB3) (Nat.le_succ _) _ _ _⟩
      · obtain ⟨j0, j1⟩ := inB_iff.1 h3
        rcases (show t < f ∨ f ≤ t by omega) with hft | hft
        · have HRR : Hid (cutR st sa xs f t = (0, 0, [], false)) := by unfold Hid cutR; rw [decide_eq_false (by omega : ¬ f ≤ t), Bool.and_false]; rfl
          go_enter Tryz.func16, Tryz.ntmps16
          go_wp2_with fail
          rw [hgo] at HG
          refine (unhide HG).mono ?_
          rintro e w1 ⟨rfl, hb⟩
          have T1 := hide ((unhide T0).next hb)
          have HB1 := hide (below_two hb)
          obtain ⟨s0, s1, c0, c1, c2, d0, d1, d2, f0, f1, f2⟩ := unhide T1
          clear hb
          go_wp2_with fail
          refine (l2Has_any st sa _ n c f _ g0 g1 hn).mono ?_
          rintro e w2 ⟨rfl, hb⟩
          have T2 := hide ((unhide T1).next hb)
          have HB2 := hide (below_next (unhide HB1) hb)
          clear s0 s1 c0 c1 c2 d0 d1 d2 f0 f1 f2
          obtain ⟨s0, s1, c0, c1, c2, d0, d1, d2, f0, f1, f2⟩ := unhide T2
          clear hb
          go_wp2_with fail
          refine (l2Has_any st sa _ n c t _ g0 g1 hn).mono ?_
          rintro e w3 ⟨rfl, hb⟩
          have T3 := hide ((unhide T2).next hb)
          have HB3 := hide (below_next (unhide HB2) hb)
          clear s0 s1 c0 c1 c2 d0 d1 d2 f0 f1 f2
          obtain ⟨s0, s1, c0, c1, c2, d0, d1, d2, f0, f1, f2⟩ := unhide T3
          clear hb
          go_wp2_with fail
          refine bodyPost_ret (v := .tuple #[.agg #[.int .i64 0, .int .i64 0, .slice none 0 0], .bool false]) (by simp [results, Tryz.results16, go_sem, *]) rfl ?_
          rw [unhide HRR]
          exact ⟨none, 0, 0, rfl, OwnI.nil _ _, below_set3 (unhide HB3) (Nat.le_succ _) _ _ _⟩
        · have HRR : Hid (cutR st sa xs f t = (st, f, (xs.drop (f - sa).toNat).take ((t - sa + 1).toNat - (f - sa).toNat), true)) := by unfold Hid cutR; rw [hgo, unhide HL, h2, h3, decide_eq_true hft]; rfl
          obtain ⟨lo, hlo⟩ : ∃ lo : Nat, (lo : Int) = f - sa := ⟨(f - sa).toNat, by omega⟩
          obtain ⟨hi, hhi⟩ : ∃ hi : Nat, (hi : Int) = t - sa + 1 := ⟨(t - sa + 1).toNat, by omega⟩
          have HRI := hide (fun (W : World) (hb : Below w.heap.size w W) => (((unhide HR).below hb).cut (k := lo) (cap := c) (by omega) hcap).take (k := hi - lo) (by omega))
          have e1 : (f - sa).toNat = lo := by omega
          have e2 : (t - sa + 1).toNat = hi := by omega
          rw [e1, e2] at HRR
          have s3 : IntKind.i64.wrap (f - sa) = lo := by rw [IntWalk.i64_in _ (by omega)]; omega
          have s4 : IntKind.i64.wrap (t - sa) = (hi : Int) - 1 := by rw [IntWalk.i64_in _ (by omega)]; omega
          have s5 : IntKind.i64.wrap (hi : Int) = hi := IntWalk.i64_in _ (by omega)
          clear e1 e2
          obtain ⟨ad, x9, rfl, hbl, _, _⟩ := (unhide HR).get (show lo < n by omega)
          have b1 : (0 : Int) ≤ (lo : Int) := by omega
          have b2 : (lo : Int) ≤ (hi : Int) := by omega
          have b3 : (hi : Int) ≤ (c : Int) := by omega
          have b4 : ¬ c = lo := by omega
          have HRI := hide (fun (W : World) (hb : Below w.heap.size w W) => (show RI W w.heap.size (some (ad.add lo)) (hi - lo) _ by have := unhide HRI W hb; rw [if_neg b4] at this; exact this))
          have b5 : lo ≤ hi := by omega
          have b6 : hi ≤ c := by omega
          have b7 : hi - lo ≤ 1048576 := by omega
          clear hlo hhi
          go_enter Tryz.func16, Tryz.ntmps16
          go_wp2_with fail
          rw [hgo] at HG
          refine (unhide HG).mono ?_
          rintro e w1 ⟨rfl, hb⟩
          have T1 := hide ((unhide T0).next hb)
          have HB1 := hide (below_two hb)
          obtain ⟨s0, s1, c0, c1, c2, d0, d1, d2, f0, f1, f2⟩ := unhide T1
          clear hb
          go_wp2_with fail
          refine (l2Has_any st sa _ n c _ _ g0 g1 hn).mono ?_
          rintro e w2 ⟨rfl, hb⟩
          have T2 := hide ((unhide T1).next hb)
          have HB2 := hide (below_next (unhide HB1) hb)
          clear s0 s1 c0 c1 c2 d0 d1 d2 f0 f1 f2
          obtain ⟨s0, s1, c0, c1, c2, d0, d1, d2, f0, f1, f2⟩ := unhide T2
          clear hb
          go_wp2_with fail
          refine (l2Has_any st sa _ n c _ _ g0 g1 hn).mono ?_
          rintro e w3 ⟨rfl, hb⟩
          have T3 := hide ((unhide T2).next hb)
          have HB3 := hide (below_next (unhide HB2) hb)
          clear s0 s1 c0 c1 c2 d0 d1 d2 f0 f1 f2
          obtain ⟨s0, s1, c0, c1, c2, d0, d1, d2, f0, f1, f2⟩ := unhide T3
          clear hb
          go_wp2_with fail
          have HD := hide ((unhide HB3).drew)
          go_region_held3 (fun w9 => w9.cell? ⟨w.heap.size, 0, none⟩ = some (.int .i64 st) ∧ w9.cell? ⟨w.heap.size, 1, none⟩ = some (.int .i64 sa) ∧ w9.cell? ⟨w.heap.size, 2, none⟩ = some (.slice (some ad) n c))
            (first | go_keep | exact ⟨k0, k1, k2⟩)
            (first
              | (go_at_call 42; refine (l1Own_any (some (ad.add lo)) (hi - lo) (c - lo) w.heap.size _ _ (unhide HRI _ (unhide HD)) (unhide HD).size b7).mono ?_; rintro e wy ⟨A2, n2, c2, rfl, hO, hby⟩; have HT := hide ((unhide T3).next (undrew hby)); obtain ⟨s0, s1, k0, k1, k2, x0, x1, x2, y0, y1, y2⟩ := unhide HT; have HO := hide hO; have HBY := hide (undrew hby); clear hO hby))
          go_wp2_with fail
          refine bodyPost_ret (v := .tuple #[.agg #[.int .i64 st, .int .i64 f, .slice A2 n2 c2], .bool true]) (by simp [results, Tryz.results16, go_sem, *]) rfl ?_
          rw [unhide HRR]
          exact ⟨A2, n2, c2, rfl, ((((unhide HO).setB (unhide T3).s1 _).setB (unhide T3).s1 _).setB (unhide T3).s1 _).less (unhide HB3).size, below_set3 (below_next (unhide HB3) (unhide HBY)) (Nat.le_succ _) _ _ _⟩

set_option maxHeartbeats 4000000 in
set_option maxRecDepth 100000 in
theorem implCut_any (st sa : Int) (A : Option Addr) (n c : Nat) (xs : List Int) (f t : Int) (w : World) (hr : RI w w.heap.size A n xs) (hn : n ≤ 1048576) (hcap : n ≤ c) :
    Calls Tryz.prog 11 #[.agg #[.int .i64 st, .int .i64 sa, .slice A n c], .int .i64 f, .int .i64 t] w (RetTB w (cutR st sa xs f t).1 (cutR st sa xs f t).2.1 (cutR st sa xs f t).2.2.1 (cutR st sa xs f t).2.2.2) := by
  have HL := hide hr.len
  have HG := hide (implIsTrace_any st sa A n c xs ((w.alloc (.cells #[.int .i64 st, .int .i64 sa, .slice A n c] 26)).alloc (.cells #[.int .i64 0, .int .i64 0, .slice none 0 0] 26)) ((((hr.alloc (Nat.le_refl _) (.cells #[.int .i64 st, .int .i64 sa, .slice A n c] 26)).alloc (by simp) (.cells #[.int .i64 0, .int .i64 0, .slice none 0 0] 26)).more (by simp <;> omega))) hn)
  have T0 := hide (TwoBox.here w (.int .i64 st) (.int .i64 sa) (.slice A n c) (.int .i64 0) (.int .i64 0) (.slice none 0 0) 26 26)
  have HR := hide hr
  clear hr
  rcases hgo : goodB st sa xs with _ | _
  · have HRR : Hid (cutR st sa xs f t = (0, 0, [], false)) := by unfold Hid cutR; rw [hgo]; rfl
    go_enter Tryz.func11, Tryz.ntmps11
    go_wp2_with fail
    rw [hgo] at HG
    refine (unhide HG).mono ?_
    rintro e w1 ⟨rfl, hb⟩
    have T1 := hide ((unhide T0).next hb)
    have HB1 := hide (below_two hb)
    obtain ⟨s0, s1, c0, c1, c2, d0, d1, d2, f0, f1, f2⟩ := unhide T1
    clear hb
    go_wp2_with fail
    refine bodyPost_ret (v := .tuple #[.agg #[.int .i64 0, .int .i64 0, .slice none 0 0], .bool false]) (by simp [results, Tryz.results11, go_sem, *]) rfl ?_
    rw [unhide HRR]
    exact ⟨none, 0, 0, rfl, OwnI.nil _ _, below_set3 (unhide HB1) (Nat.le_succ _) _ _ _⟩
  · obtain ⟨_, ⟨g0, g1⟩, _, _⟩ := goodB_parts hgo
    rcases (show t < f ∨ f ≤ t by omega) with hft | hft
    · have HRR : Hid (cutR st sa xs f t = (0, 0, [], false)) := by unfold Hid cutR; rw [decide_eq_false (by omega : ¬ f ≤ t), Bool.and_false]; rfl
      go_enter Tryz.func11, Tryz.ntmps11
      go_wp2_with fail
      rw [hgo] at HG
      refine (unhide HG).mono ?_
      rintro e w1 ⟨rfl, hb⟩
      have T1 := hide ((unhide T0).next hb)
      have HB1 := hide (below_two hb)
      obtain ⟨s0, s1, c0, c1, c2, d0, d1, d2, f0, f1, f2⟩ := unhide T1
      clear hb
      go_wp2_with fail
      refine bodyPost_ret (v := .tuple #[.agg #[.int .i64 0, .int .i64 0, .slice none 0 0], .bool false]) (by simp [results, Tryz.results11, go_sem, *]) rfl ?_
      rw [unhide HRR]
      exact ⟨none, 0, 0, rfl, OwnI.nil _ _, below_set3 (unhide HB1) (Nat.le_succ _) _ _ _⟩
    · rcases (show f < sa ∨ sa ≤ f by omega) with i0 | i0
      · have HRR : Hid (cutR st sa xs f t = (0, 0, [], false)) := by unfold Hid cutR; rw [inB_no.2 (by omega : ¬ (sa ≤ f ∧ f ≤ sa + xs.length - 1)), Bool.and_false, Bool.false_and]; rfl
        go_enter Tryz.func11, Tryz.ntmps11
        go_wp2_with fail
        rw [hgo] at HG
        refine (unhide HG).mono ?_
        rintro e w1 ⟨rfl, hb⟩
        have T1 := hide ((unhide T0).next hb)
        have HB1 := hide (below_two hb)
        obtain ⟨s0, s1, c0, c1, c2, d0, d1, d2, f0, f1, f2⟩ := unhide T1
        clear hb
        go_wp2_with fail
        refine bodyPost_ret (v := .tuple #[.agg #[.int .i64 0, .int .i64 0, .slice none 0 0], .bool false]) (by simp [results, Tryz.results11, go_sem, *]) rfl ?_
        rw [unhide HRR]
        exact ⟨none, 0, 0, rfl, OwnI.nil _ _, below_set3 (unhide HB1) (Nat.le_succ _) _ _ _⟩
      · rcases (show sa + n - 1 < t ∨ t ≤ sa + n - 1 by omega) with j1 | j1
        · have HRR : Hid (cutR st sa xs f t = (0, 0, [], false)) := by unfold Hid cutR; rw [unhide HL, inB_no.2 (by omega : ¬ (sa ≤ t ∧ t ≤ sa + n - 1)), Bool.and_false]; rfl
          go_enter Tryz.func11, Tryz.ntmps11
          go_wp2_with fail
          rw [hgo] at HG
          refine (unhide HG).mono ?_
          rintro e w1 ⟨rfl, hb⟩
          have T1 := hide ((unhide T0).next hb)
          have HB1 := hide (below_two hb)
          obtain ⟨s0, s1, c0, c1, c2, d0, d1, d2, f0, f1, f2⟩ := unhide T1
          clear hb
          go_wp2_with fail
          refine (last_any st sa _ n c _ g0 g1 hn).mono ?_
          rintro e w2 ⟨rfl, hb⟩
          have T2 := hide ((unhide T1).next hb)
          have HB2 := hide (below_next (unhide HB1) hb)
          clear s0 s1 c0 c1 c2 d0 d1 d2 f0 f1 f2
          obtain ⟨s0, s1, c0, c1, c2, d0, d1, d2, f0, f1, f2⟩ := unhide T2
          clear hb
          go_wp2_with fail
          refine bodyPost_ret (v := .tuple #[.agg #[.int .i64 0, .int .i64 0, .slice none 0 0], .bool false]) (by simp [results, Tryz.results11, go_sem, *]) rfl ?_
          rw [unhide HRR]
          exact ⟨none, 0, 0, rfl, OwnI.nil _ _, below_set3 (unhide HB2) (Nat.le_succ _) _ _ _⟩
        · have HRR : Hid (cutR st sa xs f t = (st, f, (xs.drop (f - sa).toNat).take ((t - sa + 1).toNat - (f - sa).toNat), true)) := by unfold Hid cutR; rw [hgo, unhide HL, inB_iff.2 (by omega : sa ≤ f ∧ f ≤ sa + n - 1), inB_iff.2 (by omega : sa ≤ t ∧ t ≤ sa + n - 1), decide_eq_true hft]; rfl
          have j0 : sa ≤ t := by omega
          have i1 : f ≤ sa + n - 1 := by omega
          obtain ⟨lo, hlo⟩ : ∃ lo : Nat, (lo : Int) = f - sa := ⟨(f - sa).toNat, by omega⟩
          obtain ⟨hi, hhi⟩ : ∃ hi : Nat, (hi : Int) = t - sa + 1 := ⟨(t - sa + 1).toNat, by omega⟩
          have HRI := hide (fun (W : World) (hb : Below w.heap.size w W) => (((unhide HR).below hb).cut (k := lo) (cap := c) (by omega) hcap).take (k := hi - lo) (by omega))
          have e1 : (f - sa).toNat = lo := by omega
          have e2 : (t - sa + 1).toNat = hi := by omega
          rw [e1, e2] at HRR
          have s3 : IntKind.i64.wrap (f - sa) = lo := by rw [IntWalk.i64_in _ (by omega)]; omega
          have s4 : IntKind.i64.wrap (t - sa) = (hi : Int) - 1 := by rw [IntWalk.i64_in _ (by omega)]; omega
          have s5 : IntKind.i64.wrap (hi : Int) = hi := IntWalk.i64_in _ (by omega)
          clear e1 e2
          obtain ⟨ad, x9, rfl, hbl, _, _⟩ := (unhide HR).get (show lo < n by omega)
          have b1 : (0 : Int) ≤ (lo : Int) := by omega
          have b2 : (lo : Int) ≤ (hi : Int) := by omega
          have b3 : (hi : Int) ≤ (c : Int) := by omega
          have b4 : ¬ c = lo := by omega
          have HRI := hide (fun (W : World) (hb : Below w.heap.size w W) => (show RI W w.heap.size (some (ad.add lo)) (hi - lo) _ by have := unhide HRI W hb; rw [if_neg b4] at this; exact this))
          have b5 : lo ≤ hi := by omega
          have b6 : hi ≤ c := by omega
          have b7 : hi - lo ≤ 1048576 := by omega
          clear hlo hhi
          go_enter Tryz.func11, Tryz.ntmps11
          go_wp2_with fail
          rw [hgo] at HG
          refine (unhide HG).mono ?_
          rintro e w1 ⟨rfl, hb⟩
          have T1 := hide ((unhide T0).next hb)
          have HB1 := hide (below_two hb)
          obtain ⟨s0, s1, c0, c1, c2, d0, d1, d2, f0, f1, f2⟩ := unhide T1
          clear hb
          go_wp2_with fail
          refine (last_any st sa _ n c _ g0 g1 hn).mono ?_
          rintro e w2 ⟨rfl, hb⟩
          have T2 := hide ((unhide T1).next hb)
          have HB2 := hide (below_next (unhide HB1) hb)
          clear s0 s1 c0 c1 c2 d0 d1 d2 f0 f1 f2
          obtain ⟨s0, s1, c0, c1, c2, d0, d1, d2, f0, f1, f2⟩ := unhide T2
          clear hb
          go_wp2_with fail
          have HD := hide ((unhide HB2).drew)
          go_region_held3 (fun w9 => w9.cell? ⟨w.heap.size, 0, none⟩ = some (.int .i64 st) ∧ w9.cell? ⟨w.heap.size, 1, none⟩ = some (.int .i64 sa) ∧ w9.cell? ⟨w.heap.size, 2, none⟩ = some (.slice (some ad) n c))
            (first | go_keep | exact ⟨k0, k1, k2⟩)
            (first
              | (go_at_call 31; refine (copyOf_any (some (ad.add lo)) (hi - lo) (c - lo) w.heap.size _ _ (unhide HRI _ (unhide HD)) (unhide HD).size b7).mono ?_; rintro e wy ⟨A2, n2, c2, rfl, hO, hby⟩; have HT := hide ((unhide T2).next (undrew hby)); obtain ⟨s0, s1, k0, k1, k2, x0, x1, x2, y0, y1, y2⟩ := unhide HT; have HO := hide hO; have HBY := hide (undrew hby); clear hO hby))
          go_wp2_with fail
          refine bodyPost_ret (v := .tuple #[.agg #[.int .i64 st, .int .i64 f, .slice A2 n2 c2], .bool true]) (by simp [results, Tryz.results11, go_sem, *]) rfl ?_
          rw [unhide HRR]
          exact ⟨A2, n2, c2, rfl, ((((unhide HO).setB (unhide T2).s1 _).setB (unhide T2).s1 _).setB (unhide T2).s1 _).less (unhide HB2).size, below_set3 (below_next (unhide HB2) (unhide HBY)) (Nat.le_succ _) _ _ _⟩
end Go.Proofs.YtdpmpdhhjmbbcaaGreatDoor
