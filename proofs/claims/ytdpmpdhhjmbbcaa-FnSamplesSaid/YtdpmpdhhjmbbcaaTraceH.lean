/- Chapter 2, the walks: a trace less by a level: the program's and the reference's. (By gen_traceH.py.) -/
import Derived.Test.YtdpmpdhhjmbbcaaProg
import Derived.Test.YtdpmpdhhjmbbcaaTraceG
import Derived.Test.YtdpmpdhhjmbbcaaWhole
import Derived.Deep.RegionLaw
namespace Go.Proofs.Ytdpmpdhhjmbbcaa
open Go.RowKit

/-- the samples less by a level -/
def lessI (xs : List Int) (lv : Int) : List Int := xs.map fun x => x - lv
theorem less_step (xs : List Int) (lv : Int) (k : Nat) {x : Int} (h : xs[k]? = some x) : lessI (xs.take (k + 1)) lv = lessI (xs.take k) lv ++ [x - lv] := by
  unfold lessI
  rw [List.take_add_one, h, List.map_append]
  rfl
/-- the trace less by a level, whether there is one -/
def subR (st sa : Int) (xs : List Int) (lv : Int) : Int × Int × List Int × Bool :=
  if (goodB st sa xs && inB lv (-100000) 100000 && goodB st sa (lessI xs lv)) = true then (st, sa, lessI xs lv, true) else (0, 0, [], false)
theorem sub_len (st sa : Int) (xs : List Int) (lv : Int) (h : xs.length ≤ 1048576) : (subR st sa xs lv).2.2.1.length ≤ 2097152 := by
  unfold subR
  split
  · simp only [lessI, List.length_map]; omega
  · simp
theorem trace_ne_int : 27 ≠ 3 := by decide

set_option maxHeartbeats 4000000 in
set_option maxRecDepth 100000 in
theorem implSub_any (st sa : Int) (A : Option Addr) (n c : Nat) (xs : List Int) (lv : Int) (w : World) (hr : RI w w.heap.size A n xs) (hn : n ≤ 1048576) :
    Calls Try.prog 30 #[.agg #[.int .i64 st, .int .i64 sa, .slice A n c], .int .i64 lv] w (RetTB w (subR st sa xs lv).1 (subR st sa xs lv).2.1 (subR st sa xs lv).2.2.1 (subR st sa xs lv).2.2.2) := by
  have HL := hide hr.len
  have HG := hide (implIsTrace_any st sa A n c xs ((w.alloc (.cells #[.int .i64 st, .int .i64 sa, .slice A n c] 27)).alloc (.cells #[.int .i64 0, .int .i64 0, .slice none 0 0] 27)) ((((hr.alloc (Nat.le_refl _) (.cells #[.int .i64 st, .int .i64 sa, .slice A n c] 27)).alloc (by simp) (.cells #[.int .i64 0, .int .i64 0, .slice none 0 0] 27)).more (by simp <;> omega))) hn)
  have HG2 := hide (fun (A' : Option Addr) (m c' : Nat) (W : World) (h : RI W W.heap.size A' m (lessI xs lv)) (hm : m ≤ 1048576) => implIsTrace_any st sa A' m c' (lessI xs lv) W h hm)
  have K0 := hide ((Whl.here w 27 #[.int .i64 st, .int .i64 sa, .slice A n c]).alloc (.cells #[.int .i64 0, .int .i64 0, .slice none 0 0] 27))
  have Z0 : Hid (Whl ((w.alloc (.cells #[.int .i64 st, .int .i64 sa, .slice A n c] 27)).alloc (.cells #[.int .i64 0, .int .i64 0, .slice none 0 0] 27)) (w.heap.size + 1) 27 #[.int .i64 0, .int .i64 0, .slice none 0 0]) := by have := Whl.here (w.alloc (.cells #[.int .i64 st, .int .i64 sa, .slice A n c] 27)) 27 #[.int .i64 0, .int .i64 0, .slice none 0 0]; rwa [show (w.alloc (.cells #[.int .i64 st, .int .i64 sa, .slice A n c] 27)).heap.size = w.heap.size + 1 by simp] at this
  have HR := hide hr
  clear hr
  rcases h1 : goodB st sa xs with _ | _
  · have HRR : Hid (subR st sa xs lv = (0, 0, [], false)) := by unfold Hid subR; rw [h1]; rfl
    go_enter Try.func30, Try.ntmps30
    go_wp2_with fail
    rw [h1] at HG
    refine (unhide HG).mono ?_
    rintro e w1 ⟨rfl, hb⟩
    have K1 := hide ((unhide K0).below hb)
    have Z1 := hide ((unhide Z0).below hb)
    have HB1 := hide (below_two hb)
    clear hb
    have c0 : w1.cell? ⟨w.heap.size, 0, none⟩ = some (.int .i64 st) := (unhide K1).cell 0
    have c1 : w1.cell? ⟨w.heap.size, 1, none⟩ = some (.int .i64 sa) := (unhide K1).cell 1
    have c2 : w1.cell? ⟨w.heap.size, 2, none⟩ = some (.slice A n c) := (unhide K1).cell 2
    have d0 : w1.cell? ⟨w.heap.size + 1, 0, none⟩ = some (.int .i64 0) := (unhide Z1).cell 0
    have d1 : w1.cell? ⟨w.heap.size + 1, 1, none⟩ = some (.int .i64 0) := (unhide Z1).cell 1
    have d2 : w1.cell? ⟨w.heap.size + 1, 2, none⟩ = some (.slice none 0 0) := (unhide Z1).cell 2
    have df0 : w1.frozen? ⟨w.heap.size + 1, 0, none⟩ = false := (unhide Z1).frozen 0
    have df1 : w1.frozen? ⟨w.heap.size + 1, 1, none⟩ = false := (unhide Z1).frozen 1
    have df2 : w1.frozen? ⟨w.heap.size + 1, 2, none⟩ = false := (unhide Z1).frozen 2
    have s0 : w.heap.size < w1.heap.size := (unhide K1).lt
    have s1 : w.heap.size + 1 < w1.heap.size := (unhide Z1).lt
    go_wp2_with fail
    refine bodyPost_ret (v := .tuple #[.agg #[.int .i64 0, .int .i64 0, .slice none 0 0], .bool false]) (by simp [results, Try.results30, go_sem, *]) rfl ?_
    rw [unhide HRR]
    exact ⟨none, 0, 0, rfl, OwnI.nil _ _, below_set3 (unhide HB1) (Nat.le_succ _) _ _ _⟩
  · obtain ⟨_, ⟨g0, g1⟩, hs, _⟩ := goodB_parts h1
    have hn24 : n ≤ 24 := by have := smpB_len hs; have := unhide HL; omega
    have HSM := hide (smpB_all hs)
    clear hs
    rcases h2 : inB lv (-100000) 100000 with _ | _
    · have HRR : Hid (subR st sa xs lv = (0, 0, [], false)) := by unfold Hid subR; rw [h1, h2]; rfl
      go_enter Try.func30, Try.ntmps30
      go_wp2_with fail
      rw [h1] at HG
      refine (unhide HG).mono ?_
      rintro e w1 ⟨rfl, hb⟩
      have K1 := hide ((unhide K0).below hb)
      have Z1 := hide ((unhide Z0).below hb)
      have HB1 := hide (below_two hb)
      clear hb
      have c0 : w1.cell? ⟨w.heap.size, 0, none⟩ = some (.int .i64 st) := (unhide K1).cell 0
      have c1 : w1.cell? ⟨w.heap.size, 1, none⟩ = some (.int .i64 sa) := (unhide K1).cell 1
      have c2 : w1.cell? ⟨w.heap.size, 2, none⟩ = some (.slice A n c) := (unhide K1).cell 2
      have d0 : w1.cell? ⟨w.heap.size + 1, 0, none⟩ = some (.int .i64 0) := (unhide Z1).cell 0
      have d1 : w1.cell? ⟨w.heap.size + 1, 1, none⟩ = some (.int .i64 0) := (unhide Z1).cell 1
      have d2 : w1.cell? ⟨w.heap.size + 1, 2, none⟩ = some (.slice none 0 0) := (unhide Z1).cell 2
      have df0 : w1.frozen? ⟨w.heap.size + 1, 0, none⟩ = false := (unhide Z1).frozen 0
      have df1 : w1.frozen? ⟨w.heap.size + 1, 1, none⟩ = false := (unhide Z1).frozen 1
      have df2 : w1.frozen? ⟨w.heap.size + 1, 2, none⟩ = false := (unhide Z1).frozen 2
      have s0 : w.heap.size < w1.heap.size := (unhide K1).lt
      have s1 : w.heap.size + 1 < w1.heap.size := (unhide Z1).lt
      go_wp2_with fail
      refine (isSample_any lv _).mono ?_
      rintro e w9 ⟨rfl, rfl⟩
      rw [h2]
      go_wp2_with fail
      refine bodyPost_ret (v := .tuple #[.agg #[.int .i64 0, .int .i64 0, .slice none 0 0], .bool false]) (by simp [results, Try.results30, go_sem, *]) rfl ?_
      rw [unhide HRR]
      exact ⟨none, 0, 0, rfl, OwnI.nil _ _, below_set3 (unhide HB1) (Nat.le_succ _) _ _ _⟩
    · obtain ⟨v0, v1⟩ := inB_iff.1 h2
      have HRR : Hid (∀ r, goodB st sa (lessI xs lv) = r → subR st sa xs lv = if r = true then (st, sa, lessI xs lv, true) else (0, 0, [], false)) := by intro r hr; unfold subR; rw [h1, h2, hr, Bool.true_and, Bool.true_and]
      go_enter Try.func30, Try.ntmps30
      go_wp2_with fail
      rw [h1] at HG
      refine (unhide HG).mono ?_
      rintro e w1 ⟨rfl, hb⟩
      have K1 := hide ((unhide K0).below hb)
      have Z1 := hide ((unhide Z0).below hb)
      have HB1 := hide (below_two hb)
      clear hb
      have c0 : w1.cell? ⟨w.heap.size, 0, none⟩ = some (.int .i64 st) := (unhide K1).cell 0
      have c1 : w1.cell? ⟨w.heap.size, 1, none⟩ = some (.int .i64 sa) := (unhide K1).cell 1
      have c2 : w1.cell? ⟨w.heap.size, 2, none⟩ = some (.slice A n c) := (unhide K1).cell 2
      have d0 : w1.cell? ⟨w.heap.size + 1, 0, none⟩ = some (.int .i64 0) := (unhide Z1).cell 0
      have d1 : w1.cell? ⟨w.heap.size + 1, 1, none⟩ = some (.int .i64 0) := (unhide Z1).cell 1
      have d2 : w1.cell? ⟨w.heap.size + 1, 2, none⟩ = some (.slice none 0 0) := (unhide Z1).cell 2
      have df0 : w1.frozen? ⟨w.heap.size + 1, 0, none⟩ = false := (unhide Z1).frozen 0
      have df1 : w1.frozen? ⟨w.heap.size + 1, 1, none⟩ = false := (unhide Z1).frozen 1
      have df2 : w1.frozen? ⟨w.heap.size + 1, 2, none⟩ = false := (unhide Z1).frozen 2
      have s0 : w.heap.size < w1.heap.size := (unhide K1).lt
      have s1 : w.heap.size + 1 < w1.heap.size := (unhide Z1).lt
      go_wp2_with fail
      refine (isSample_any lv _).mono ?_
      rintro e w9 ⟨rfl, rfl⟩
      rw [h2]
      go_wp2_with fail
      clear c0 c1 c2 d0 d1 d2 df0 df1 df2 s0 s1
      go_loopw [27] (fun i wr => ∃ (k : Nat) (A' : Option Addr) (c' : Nat), k ≤ n ∧ i = .int .i64 k ∧ Hid (OwnI wr (w.heap.size + 2) A' k c' (lessI (xs.take k) lv)) ∧ Hid (Whl wr w.heap.size 27 #[.int .i64 st, .int .i64 sa, .slice A n c]) ∧ Hid (Whl wr (w.heap.size + 1) 27 #[.int .i64 0, .int .i64 0, .slice none 0 0]) ∧ Hid (Whl wr (w1.heap.size + 1) 27 #[.int .i64 st, .int .i64 sa, .slice A' k c']) ∧ Hid (Below w.heap.size w wr)) (fun i _ => n - (intOf i).toNat)
      case atStart =>
        have q : w.heap.size + 2 ≤ w1.heap.size := (unhide Z1).lt
        exact ⟨0, some ⟨w1.heap.size, 0, none⟩, 0, Nat.zero_le _, rfl, (OwnI.empty w1 q).alloc _, ((unhide K1).alloc _).alloc _, ((unhide Z1).alloc _).alloc _, by have := Whl.here (w1.alloc (.cells #[] 3)) 27 #[.int .i64 st, .int .i64 sa, .slice (some ⟨w1.heap.size, 0, none⟩) 0 0]; rwa [show (w1.alloc (.cells #[] 3)).heap.size = w1.heap.size + 1 by simp] at this, ((unhide HB1).alloc (unhide HB1).size _).alloc (by have := (unhide HB1).size; simp; omega) _⟩
      case round =>
        obtain ⟨k, A', c', hk, rfl, hO, hK, hZ, hU, hB⟩ := hrel
        have c0 : wr.cell? ⟨w.heap.size, 0, none⟩ = some (.int .i64 st) := (unhide hK).cell 0
        have c1 : wr.cell? ⟨w.heap.size, 1, none⟩ = some (.int .i64 sa) := (unhide hK).cell 1
        have c2 : wr.cell? ⟨w.heap.size, 2, none⟩ = some (.slice A n c) := (unhide hK).cell 2
        have o0 : wr.cell? ⟨w1.heap.size + 1, 0, none⟩ = some (.int .i64 st) := (unhide hU).cell 0
        have o1 : wr.cell? ⟨w1.heap.size + 1, 1, none⟩ = some (.int .i64 sa) := (unhide hU).cell 1
        have o2 : wr.cell? ⟨w1.heap.size + 1, 2, none⟩ = some (.slice A' k c') := (unhide hU).cell 2
        have of0 : wr.frozen? ⟨w1.heap.size + 1, 0, none⟩ = false := (unhide hU).frozen 0
        have of1 : wr.frozen? ⟨w1.heap.size + 1, 1, none⟩ = false := (unhide hU).frozen 1
        have of2 : wr.frozen? ⟨w1.heap.size + 1, 2, none⟩ = false := (unhide hU).frozen 2
        have su : w1.heap.size + 1 < wr.heap.size := (unhide hU).lt
        have sk : w.heap.size < wr.heap.size := (unhide hK).lt
        by_cases hlt : k < n
        · obtain ⟨ad, x, rfl, hbx, hx, hc⟩ := ((unhide HR).below (unhide hB)).get hlt
          have bx := unhide HSM x (List.mem_of_getElem? (unhide hx))
          obtain ⟨bx0, bx1⟩ := bx
          have HE := hide (less_step xs lv k (unhide hx))
          clear hx
          have l1 : (k : Int) < (n : Int) := by omega
          have l2 : (0 : Int) ≤ (k : Int) := by omega
          have q : w.heap.size + 2 ≤ wr.heap.size := by have := (unhide hZ).lt; omega
          go_wp2_with (at_builtin; refine append_int2 _ rfl _ _ rfl (w.heap.size + 2) A' k c' (lessI (xs.take k) lv) rfl ((unhide hO).alloc _) (by simp; omega) _ (x - lv) rfl (cellNew _ _ _) (by omega) ?_; intro A9 c9 w2 hO2 hg2; have HK2 := hide (((unhide hK).alloc _).kept hg2 ((unhide hO).alloc _) trace_ne_int); have HZ2 := hide (((unhide hZ).alloc _).kept hg2 ((unhide hO).alloc _) trace_ne_int); have HU2 := hide (((unhide hU).alloc _).kept hg2 ((unhide hO).alloc _) trace_ne_int); have HB2 := hide (((unhide hO).alloc _).grow ((unhide hB).alloc (unhide hB).size _) (show w.heap.size ≤ w.heap.size + 2 by omega) (by have := (unhide hB).size; simp; omega) hg2); have r0 : w2.cell? ⟨w1.heap.size + 1, 2, none⟩ = some (.slice A' k c') := (unhide HU2).cell 2; have r1 : w2.frozen? ⟨w1.heap.size + 1, 2, none⟩ = false := (unhide HU2).frozen 2; have r2 : w1.heap.size + 1 < w2.heap.size := (unhide HU2).lt; have HO2 := hide hO2; clear hO2 hg2)
          go_roundw
          case rel =>
            have hne : w.heap.size ≠ w1.heap.size + 1 := by have := (unhide K1).lt; omega
            have hne2 : w.heap.size + 1 ≠ w1.heap.size + 1 := by have := (unhide Z1).lt; omega
            exact ⟨k + 1, A9, c9, by omega, by go_num, by rw [unhide HE]; exact OwnI.apart (unhide HO2) (unhide HU2) trace_ne_int 2 _, (unhide HK2).far (p := ⟨w1.heap.size + 1, 2, none⟩) hne _, (unhide HZ2).far (p := ⟨w1.heap.size + 1, 2, none⟩) hne2 _, (unhide HU2).store 2 _, (unhide HB2).setCell (p := ⟨w1.heap.size + 1, 2, none⟩) (by have := (unhide K1).lt; simp; omega) _⟩
          case measure => simp [intOf]; omega
        · obtain rfl : k = n := by omega
          have ex : xs.take k = xs := List.take_of_length_le (by have := unhide HL; omega)
          rw [ex] at hO
          clear ex
          have HC := hide (unhide HG2 A' k c' wr (unhide hO).ri (by omega))
          rcases h3 : goodB st sa (lessI xs lv) with _ | _
          · have HRR2 := hide (unhide HRR _ h3)
            rw [h3] at HC
            go_wp2_with fail
            refine (unhide HC).mono ?_
            rintro e w4 ⟨rfl, hb⟩
            have HZ4 := hide ((unhide hZ).below hb)
            have HU4 := hide ((unhide hU).below hb)
            have HB4 := hide (below_next (unhide hB) hb)
            have HO4 := hide (OwnI.below (unhide hO) hb (Nat.le_refl _))
            clear hb c0 c1 c2 o0 o1 o2 of0 of1 of2 su sk
            have d0 : w4.cell? ⟨w.heap.size + 1, 0, none⟩ = some (.int .i64 0) := (unhide HZ4).cell 0
            have d1 : w4.cell? ⟨w.heap.size + 1, 1, none⟩ = some (.int .i64 0) := (unhide HZ4).cell 1
            have d2 : w4.cell? ⟨w.heap.size + 1, 2, none⟩ = some (.slice none 0 0) := (unhide HZ4).cell 2
            have df0 : w4.frozen? ⟨w.heap.size + 1, 0, none⟩ = false := (unhide HZ4).frozen 0
            have df1 : w4.frozen? ⟨w.heap.size + 1, 1, none⟩ = false := (unhide HZ4).frozen 1
            have df2 : w4.frozen? ⟨w.heap.size + 1, 2, none⟩ = false := (unhide HZ4).frozen 2
            have o0 : w4.cell? ⟨w1.heap.size + 1, 0, none⟩ = some (.int .i64 st) := (unhide HU4).cell 0
            have o1 : w4.cell? ⟨w1.heap.size + 1, 1, none⟩ = some (.int .i64 sa) := (unhide HU4).cell 1
            have o2 : w4.cell? ⟨w1.heap.size + 1, 2, none⟩ = some (.slice A' k c') := (unhide HU4).cell 2
            have of0 : w4.frozen? ⟨w1.heap.size + 1, 0, none⟩ = false := (unhide HU4).frozen 0
            have of1 : w4.frozen? ⟨w1.heap.size + 1, 1, none⟩ = false := (unhide HU4).frozen 1
            have of2 : w4.frozen? ⟨w1.heap.size + 1, 2, none⟩ = false := (unhide HU4).frozen 2
            have su : w1.heap.size + 1 < w4.heap.size := (unhide HU4).lt
            have sz : w.heap.size + 1 < w4.heap.size := (unhide HZ4).lt
            go_wp2_with fail
            refine bodyPost_ret (v := .tuple #[.agg #[.int .i64 0, .int .i64 0, .slice none 0 0], .bool false]) (by simp [results, Try.results30, go_sem, *]) rfl ?_
            rw [unhide HRR2]
            exact ⟨none, 0, 0, rfl, OwnI.nil _ _, below_set3 (unhide HB4) (Nat.le_succ _) _ _ _⟩
          · have HRR2 := hide (unhide HRR _ h3)
            rw [h3] at HC
            go_wp2_with fail
            refine (unhide HC).mono ?_
            rintro e w4 ⟨rfl, hb⟩
            have HZ4 := hide ((unhide hZ).below hb)
            have HU4 := hide ((unhide hU).below hb)
            have HB4 := hide (below_next (unhide hB) hb)
            have HO4 := hide (OwnI.below (unhide hO) hb (Nat.le_refl _))
            clear hb c0 c1 c2 o0 o1 o2 of0 of1 of2 su sk
            have d0 : w4.cell? ⟨w.heap.size + 1, 0, none⟩ = some (.int .i64 0) := (unhide HZ4).cell 0
            have d1 : w4.cell? ⟨w.heap.size + 1, 1, none⟩ = some (.int .i64 0) := (unhide HZ4).cell 1
            have d2 : w4.cell? ⟨w.heap.size + 1, 2, none⟩ = some (.slice none 0 0) := (unhide HZ4).cell 2
            have df0 : w4.frozen? ⟨w.heap.size + 1, 0, none⟩ = false := (unhide HZ4).frozen 0
            have df1 : w4.frozen? ⟨w.heap.size + 1, 1, none⟩ = false := (unhide HZ4).frozen 1
            have df2 : w4.frozen? ⟨w.heap.size + 1, 2, none⟩ = false := (unhide HZ4).frozen 2
            have o0 : w4.cell? ⟨w1.heap.size + 1, 0, none⟩ = some (.int .i64 st) := (unhide HU4).cell 0
            have o1 : w4.cell? ⟨w1.heap.size + 1, 1, none⟩ = some (.int .i64 sa) := (unhide HU4).cell 1
            have o2 : w4.cell? ⟨w1.heap.size + 1, 2, none⟩ = some (.slice A' k c') := (unhide HU4).cell 2
            have of0 : w4.frozen? ⟨w1.heap.size + 1, 0, none⟩ = false := (unhide HU4).frozen 0
            have of1 : w4.frozen? ⟨w1.heap.size + 1, 1, none⟩ = false := (unhide HU4).frozen 1
            have of2 : w4.frozen? ⟨w1.heap.size + 1, 2, none⟩ = false := (unhide HU4).frozen 2
            have su : w1.heap.size + 1 < w4.heap.size := (unhide HU4).lt
            have sz : w.heap.size + 1 < w4.heap.size := (unhide HZ4).lt
            go_wp2_with fail
            refine bodyPost_ret (v := .tuple #[.agg #[.int .i64 st, .int .i64 sa, .slice A' k c'], .bool true]) (by simp [results, Try.results30, go_sem, *]) rfl ?_
            rw [unhide HRR2]
            exact ⟨A', k, c', rfl, ((((unhide HO4).setB (show w.heap.size + 1 < w.heap.size + 2 by omega) _).setB (show w.heap.size + 1 < w.heap.size + 2 by omega) _).setB (show w.heap.size + 1 < w.heap.size + 2 by omega) _).less (by omega), below_set3 (unhide HB4) (Nat.le_succ _) _ _ _⟩

set_option maxHeartbeats 4000000 in
set_option maxRecDepth 100000 in
theorem specSub_any (st sa : Int) (A : Option Addr) (n c : Nat) (xs : List Int) (lv : Int) (w : World) (hr : RI w w.heap.size A n xs) (hn : n ≤ 1048576) :
    Calls Try.prog 29 #[.agg #[.int .i64 st, .int .i64 sa, .slice A n c], .int .i64 lv] w (RetTB w (subR st sa xs lv).1 (subR st sa xs lv).2.1 (subR st sa xs lv).2.2.1 (subR st sa xs lv).2.2.2) := by
  have HL := hide hr.len
  have HG := hide (l2Good_any st sa A n c xs ((w.alloc (.cells #[.int .i64 st, .int .i64 sa, .slice A n c] 27)).alloc (.cells #[.int .i64 0, .int .i64 0, .slice none 0 0] 27)) ((((hr.alloc (Nat.le_refl _) (.cells #[.int .i64 st, .int .i64 sa, .slice A n c] 27)).alloc (by simp) (.cells #[.int .i64 0, .int .i64 0, .slice none 0 0] 27)).more (by simp <;> omega))) hn)
  have HG2 := hide (fun (A' : Option Addr) (m c' : Nat) (W : World) (h : RI W W.heap.size A' m (lessI xs lv)) (hm : m ≤ 1048576) => l2Good_any st sa A' m c' (lessI xs lv) W h hm)
  have K0 := hide ((Whl.here w 27 #[.int .i64 st, .int .i64 sa, .slice A n c]).alloc (.cells #[.int .i64 0, .int .i64 0, .slice none 0 0] 27))
  have Z0 : Hid (Whl ((w.alloc (.cells #[.int .i64 st, .int .i64 sa, .slice A n c] 27)).alloc (.cells #[.int .i64 0, .int .i64 0, .slice none 0 0] 27)) (w.heap.size + 1) 27 #[.int .i64 0, .int .i64 0, .slice none 0 0]) := by have := Whl.here (w.alloc (.cells #[.int .i64 st, .int .i64 sa, .slice A n c] 27)) 27 #[.int .i64 0, .int .i64 0, .slice none 0 0]; rwa [show (w.alloc (.cells #[.int .i64 st, .int .i64 sa, .slice A n c] 27)).heap.size = w.heap.size + 1 by simp] at this
  have HR := hide hr
  clear hr
  rcases h1 : goodB st sa xs with _ | _
  · have HRR : Hid (subR st sa xs lv = (0, 0, [], false)) := by unfold Hid subR; rw [h1]; rfl
    go_enter Try.func29, Try.ntmps29
    go_wp2_with fail
    rw [h1] at HG
    refine (unhide HG).mono ?_
    rintro e w1 ⟨rfl, hb⟩
    have K1 := hide ((unhide K0).below hb)
    have Z1 := hide ((unhide Z0).below hb)
    have HB1 := hide (below_two hb)
    clear hb
    have c0 : w1.cell? ⟨w.heap.size, 0, none⟩ = some (.int .i64 st) := (unhide K1).cell 0
    have c1 : w1.cell? ⟨w.heap.size, 1, none⟩ = some (.int .i64 sa) := (unhide K1).cell 1
    have c2 : w1.cell? ⟨w.heap.size, 2, none⟩ = some (.slice A n c) := (unhide K1).cell 2
    have d0 : w1.cell? ⟨w.heap.size + 1, 0, none⟩ = some (.int .i64 0) := (unhide Z1).cell 0
    have d1 : w1.cell? ⟨w.heap.size + 1, 1, none⟩ = some (.int .i64 0) := (unhide Z1).cell 1
    have d2 : w1.cell? ⟨w.heap.size + 1, 2, none⟩ = some (.slice none 0 0) := (unhide Z1).cell 2
    have df0 : w1.frozen? ⟨w.heap.size + 1, 0, none⟩ = false := (unhide Z1).frozen 0
    have df1 : w1.frozen? ⟨w.heap.size + 1, 1, none⟩ = false := (unhide Z1).frozen 1
    have df2 : w1.frozen? ⟨w.heap.size + 1, 2, none⟩ = false := (unhide Z1).frozen 2
    have s0 : w.heap.size < w1.heap.size := (unhide K1).lt
    have s1 : w.heap.size + 1 < w1.heap.size := (unhide Z1).lt
    go_wp2_with fail
    refine bodyPost_ret (v := .tuple #[.agg #[.int .i64 0, .int .i64 0, .slice none 0 0], .bool false]) (by simp [results, Try.results29, go_sem, *]) rfl ?_
    rw [unhide HRR]
    exact ⟨none, 0, 0, rfl, OwnI.nil _ _, below_set3 (unhide HB1) (Nat.le_succ _) _ _ _⟩
  · obtain ⟨_, ⟨g0, g1⟩, hs, _⟩ := goodB_parts h1
    have hn24 : n ≤ 24 := by have := smpB_len hs; have := unhide HL; omega
    have HSM := hide (smpB_all hs)
    clear hs
    rcases h2 : inB lv (-100000) 100000 with _ | _
    · have HRR : Hid (subR st sa xs lv = (0, 0, [], false)) := by unfold Hid subR; rw [h1, h2]; rfl
      go_enter Try.func29, Try.ntmps29
      go_wp2_with fail
      rw [h1] at HG
      refine (unhide HG).mono ?_
      rintro e w1 ⟨rfl, hb⟩
      have K1 := hide ((unhide K0).below hb)
      have Z1 := hide ((unhide Z0).below hb)
      have HB1 := hide (below_two hb)
      clear hb
      have c0 : w1.cell? ⟨w.heap.size, 0, none⟩ = some (.int .i64 st) := (unhide K1).cell 0
      have c1 : w1.cell? ⟨w.heap.size, 1, none⟩ = some (.int .i64 sa) := (unhide K1).cell 1
      have c2 : w1.cell? ⟨w.heap.size, 2, none⟩ = some (.slice A n c) := (unhide K1).cell 2
      have d0 : w1.cell? ⟨w.heap.size + 1, 0, none⟩ = some (.int .i64 0) := (unhide Z1).cell 0
      have d1 : w1.cell? ⟨w.heap.size + 1, 1, none⟩ = some (.int .i64 0) := (unhide Z1).cell 1
      have d2 : w1.cell? ⟨w.heap.size + 1, 2, none⟩ = some (.slice none 0 0) := (unhide Z1).cell 2
      have df0 : w1.frozen? ⟨w.heap.size + 1, 0, none⟩ = false := (unhide Z1).frozen 0
      have df1 : w1.frozen? ⟨w.heap.size + 1, 1, none⟩ = false := (unhide Z1).frozen 1
      have df2 : w1.frozen? ⟨w.heap.size + 1, 2, none⟩ = false := (unhide Z1).frozen 2
      have s0 : w.heap.size < w1.heap.size := (unhide K1).lt
      have s1 : w.heap.size + 1 < w1.heap.size := (unhide Z1).lt
      go_wp2_with fail
      refine (l1In_any lv _ _ _).mono ?_
      rintro e w9 ⟨rfl, rfl⟩
      rw [h2]
      go_wp2_with fail
      refine bodyPost_ret (v := .tuple #[.agg #[.int .i64 0, .int .i64 0, .slice none 0 0], .bool false]) (by simp [results, Try.results29, go_sem, *]) rfl ?_
      rw [unhide HRR]
      exact ⟨none, 0, 0, rfl, OwnI.nil _ _, below_set3 (unhide HB1) (Nat.le_succ _) _ _ _⟩
    · obtain ⟨v0, v1⟩ := inB_iff.1 h2
      have HRR : Hid (∀ r, goodB st sa (lessI xs lv) = r → subR st sa xs lv = if r = true then (st, sa, lessI xs lv, true) else (0, 0, [], false)) := by intro r hr; unfold subR; rw [h1, h2, hr, Bool.true_and, Bool.true_and]
      go_enter Try.func29, Try.ntmps29
      go_wp2_with fail
      rw [h1] at HG
      refine (unhide HG).mono ?_
      rintro e w1 ⟨rfl, hb⟩
      have K1 := hide ((unhide K0).below hb)
      have Z1 := hide ((unhide Z0).below hb)
      have HB1 := hide (below_two hb)
      clear hb
      have c0 : w1.cell? ⟨w.heap.size, 0, none⟩ = some (.int .i64 st) := (unhide K1).cell 0
      have c1 : w1.cell? ⟨w.heap.size, 1, none⟩ = some (.int .i64 sa) := (unhide K1).cell 1
      have c2 : w1.cell? ⟨w.heap.size, 2, none⟩ = some (.slice A n c) := (unhide K1).cell 2
      have d0 : w1.cell? ⟨w.heap.size + 1, 0, none⟩ = some (.int .i64 0) := (unhide Z1).cell 0
      have d1 : w1.cell? ⟨w.heap.size + 1, 1, none⟩ = some (.int .i64 0) := (unhide Z1).cell 1
      have d2 : w1.cell? ⟨w.heap.size + 1, 2, none⟩ = some (.slice none 0 0) := (unhide Z1).cell 2
      have df0 : w1.frozen? ⟨w.heap.size + 1, 0, none⟩ = false := (unhide Z1).frozen 0
      have df1 : w1.frozen? ⟨w.heap.size + 1, 1, none⟩ = false := (unhide Z1).frozen 1
      have df2 : w1.frozen? ⟨w.heap.size + 1, 2, none⟩ = false := (unhide Z1).frozen 2
      have s0 : w.heap.size < w1.heap.size := (unhide K1).lt
      have s1 : w.heap.size + 1 < w1.heap.size := (unhide Z1).lt
      go_wp2_with fail
      refine (l1In_any lv _ _ _).mono ?_
      rintro e w9 ⟨rfl, rfl⟩
      rw [h2]
      go_wp2_with fail
      clear c0 c1 c2 d0 d1 d2 df0 df1 df2 s0 s1
      go_loopw [7] (fun i wr => ∃ (k : Nat) (A' : Option Addr) (c' : Nat), k ≤ n ∧ i = .int .i64 k ∧ Hid (OwnI wr (w.heap.size + 2) A' k c' (lessI (xs.take k) lv)) ∧ Hid (Whl wr w.heap.size 27 #[.int .i64 st, .int .i64 sa, .slice A n c]) ∧ Hid (Whl wr (w.heap.size + 1) 27 #[.int .i64 0, .int .i64 0, .slice none 0 0]) ∧ Hid (Whl wr (w1.heap.size + 1) 27 #[.int .i64 st, .int .i64 sa, .slice A' k c']) ∧ Hid (Below w.heap.size w wr)) (fun i _ => n - (intOf i).toNat)
      case atStart =>
        have q : w.heap.size + 2 ≤ w1.heap.size := (unhide Z1).lt
        exact ⟨0, some ⟨w1.heap.size, 0, none⟩, 0, Nat.zero_le _, rfl, (OwnI.empty w1 q).alloc _, ((unhide K1).alloc _).alloc _, ((unhide Z1).alloc _).alloc _, by have := Whl.here (w1.alloc (.cells #[] 3)) 27 #[.int .i64 st, .int .i64 sa, .slice (some ⟨w1.heap.size, 0, none⟩) 0 0]; rwa [show (w1.alloc (.cells #[] 3)).heap.size = w1.heap.size + 1 by simp] at this, ((unhide HB1).alloc (unhide HB1).size _).alloc (by have := (unhide HB1).size; simp; omega) _⟩
      case round =>
        obtain ⟨k, A', c', hk, rfl, hO, hK, hZ, hU, hB⟩ := hrel
        have c0 : wr.cell? ⟨w.heap.size, 0, none⟩ = some (.int .i64 st) := (unhide hK).cell 0
        have c1 : wr.cell? ⟨w.heap.size, 1, none⟩ = some (.int .i64 sa) := (unhide hK).cell 1
        have c2 : wr.cell? ⟨w.heap.size, 2, none⟩ = some (.slice A n c) := (unhide hK).cell 2
        have o0 : wr.cell? ⟨w1.heap.size + 1, 0, none⟩ = some (.int .i64 st) := (unhide hU).cell 0
        have o1 : wr.cell? ⟨w1.heap.size + 1, 1, none⟩ = some (.int .i64 sa) := (unhide hU).cell 1
        have o2 : wr.cell? ⟨w1.heap.size + 1, 2, none⟩ = some (.slice A' k c') := (unhide hU).cell 2
        have of0 : wr.frozen? ⟨w1.heap.size + 1, 0, none⟩ = false := (unhide hU).frozen 0
        have of1 : wr.frozen? ⟨w1.heap.size + 1, 1, none⟩ = false := (unhide hU).frozen 1
        have of2 : wr.frozen? ⟨w1.heap.size + 1, 2, none⟩ = false := (unhide hU).frozen 2
        have su : w1.heap.size + 1 < wr.heap.size := (unhide hU).lt
        have sk : w.heap.size < wr.heap.size := (unhide hK).lt
        by_cases hlt : k < n
        · obtain ⟨ad, x, rfl, hbx, hx, hc⟩ := ((unhide HR).below (unhide hB)).get hlt
          have bx := unhide HSM x (List.mem_of_getElem? (unhide hx))
          obtain ⟨bx0, bx1⟩ := bx
          have HE := hide (less_step xs lv k (unhide hx))
          clear hx
          have l1 : (k : Int) < (n : Int) := by omega
          have l2 : (0 : Int) ≤ (k : Int) := by omega
          have q : w.heap.size + 2 ≤ wr.heap.size := by have := (unhide hZ).lt; omega
          obtain ⟨U, hU0⟩ : ∃ U, U = wr := ⟨_, rfl⟩
          clear hU0
          have s9 : IntKind.i64.wrap (x - lv) = x - lv := IntWalk.i64_in _ (by omega)
          go_wp2_with fail
          go_region_law
            (first
              | (refine step_append_int2 _ (by rfl) _ _ (by rfl) (w.heap.size + 2) A' k c' (lessI (xs.take k) lv) (by rfl) ((OwnI.below (unhide hO) (Below.refl _ _).drew (Nat.le_refl _)).alloc _) (by simp; omega) _ (x - lv) (by rfl) (by exact cellNew _ _ _) (by omega) ?_; intro A9 c9 w2 hO2 hg2; have HK2 := hide (((unhide hK).drew.alloc _).kept hg2 ((OwnI.below (unhide hO) (Below.refl _ _).drew (Nat.le_refl _)).alloc _) trace_ne_int); have HZ2 := hide (((unhide hZ).drew.alloc _).kept hg2 ((OwnI.below (unhide hO) (Below.refl _ _).drew (Nat.le_refl _)).alloc _) trace_ne_int); have HU2 := hide (((unhide hU).drew.alloc _).kept hg2 ((OwnI.below (unhide hO) (Below.refl _ _).drew (Nat.le_refl _)).alloc _) trace_ne_int); have HB2 := hide (((OwnI.below (unhide hO) (Below.refl _ _).drew (Nat.le_refl _)).alloc _).grow ((unhide hB).drew.alloc (unhide hB).size _) (show w.heap.size ≤ w.heap.size + 2 by omega) (by have := (unhide hB).size; simp; omega) hg2); have r0 : w2.cell? ⟨w1.heap.size + 1, 2, none⟩ = some (.slice A' k c') := (unhide HU2).cell 2; have r1 : w2.frozen? ⟨w1.heap.size + 1, 2, none⟩ = false := (unhide HU2).frozen 2; have r2 : w1.heap.size + 1 < w2.heap.size := (unhide HU2).lt; have HK3 := hide ((unhide HK2).far (p := ⟨w1.heap.size + 1, 2, none⟩) (by have := (unhide hK).lt; have := (unhide Z1).lt; simp; omega) (.slice A9 (k + 1) c9)); have HB3 := hide ((unhide HB2).setCell (p := ⟨w1.heap.size + 1, 2, none⟩) (by have := (unhide Z1).lt; simp; omega) (.slice A9 (k + 1) c9)); have HO2 := hide hO2; clear hO2 hg2))
          all_goals
            go_wp2_with fail
            go_roundw
            case rel =>
              have hne : w.heap.size ≠ w1.heap.size + 1 := by have := (unhide K1).lt; omega
              have hne2 : w.heap.size + 1 ≠ w1.heap.size + 1 := by have := (unhide Z1).lt; omega
              exact ⟨k + 1, A9, c9, by omega, by go_num, by rw [unhide HE]; exact OwnI.apart (unhide HO2) (unhide HU2) trace_ne_int 2 _, (unhide HK2).far (p := ⟨w1.heap.size + 1, 2, none⟩) hne _, (unhide HZ2).far (p := ⟨w1.heap.size + 1, 2, none⟩) hne2 _, (unhide HU2).store 2 _, (unhide HB2).setCell (p := ⟨w1.heap.size + 1, 2, none⟩) (by have := (unhide K1).lt; simp; omega) _⟩
            case measure => simp [intOf]; omega
        · obtain rfl : k = n := by omega
          have ex : xs.take k = xs := List.take_of_length_le (by have := unhide HL; omega)
          rw [ex] at hO
          clear ex
          have HC := hide (unhide HG2 A' k c' wr (unhide hO).ri (by omega))
          rcases h3 : goodB st sa (lessI xs lv) with _ | _
          · have HRR2 := hide (unhide HRR _ h3)
            rw [h3] at HC
            go_wp2_with fail
            refine (unhide HC).mono ?_
            rintro e w4 ⟨rfl, hb⟩
            have HZ4 := hide ((unhide hZ).below hb)
            have HU4 := hide ((unhide hU).below hb)
            have HB4 := hide (below_next (unhide hB) hb)
            have HO4 := hide (OwnI.below (unhide hO) hb (Nat.le_refl _))
            clear hb c0 c1 c2 o0 o1 o2 of0 of1 of2 su sk
            have d0 : w4.cell? ⟨w.heap.size + 1, 0, none⟩ = some (.int .i64 0) := (unhide HZ4).cell 0
            have d1 : w4.cell? ⟨w.heap.size + 1, 1, none⟩ = some (.int .i64 0) := (unhide HZ4).cell 1
            have d2 : w4.cell? ⟨w.heap.size + 1, 2, none⟩ = some (.slice none 0 0) := (unhide HZ4).cell 2
            have df0 : w4.frozen? ⟨w.heap.size + 1, 0, none⟩ = false := (unhide HZ4).frozen 0
            have df1 : w4.frozen? ⟨w.heap.size + 1, 1, none⟩ = false := (unhide HZ4).frozen 1
            have df2 : w4.frozen? ⟨w.heap.size + 1, 2, none⟩ = false := (unhide HZ4).frozen 2
            have o0 : w4.cell? ⟨w1.heap.size + 1, 0, none⟩ = some (.int .i64 st) := (unhide HU4).cell 0
            have o1 : w4.cell? ⟨w1.heap.size + 1, 1, none⟩ = some (.int .i64 sa) := (unhide HU4).cell 1
            have o2 : w4.cell? ⟨w1.heap.size + 1, 2, none⟩ = some (.slice A' k c') := (unhide HU4).cell 2
            have of0 : w4.frozen? ⟨w1.heap.size + 1, 0, none⟩ = false := (unhide HU4).frozen 0
            have of1 : w4.frozen? ⟨w1.heap.size + 1, 1, none⟩ = false := (unhide HU4).frozen 1
            have of2 : w4.frozen? ⟨w1.heap.size + 1, 2, none⟩ = false := (unhide HU4).frozen 2
            have su : w1.heap.size + 1 < w4.heap.size := (unhide HU4).lt
            have sz : w.heap.size + 1 < w4.heap.size := (unhide HZ4).lt
            go_wp2_with fail
            refine bodyPost_ret (v := .tuple #[.agg #[.int .i64 0, .int .i64 0, .slice none 0 0], .bool false]) (by simp [results, Try.results29, go_sem, *]) rfl ?_
            rw [unhide HRR2]
            exact ⟨none, 0, 0, rfl, OwnI.nil _ _, below_set3 (unhide HB4) (Nat.le_succ _) _ _ _⟩
          · have HRR2 := hide (unhide HRR _ h3)
            rw [h3] at HC
            go_wp2_with fail
            refine (unhide HC).mono ?_
            rintro e w4 ⟨rfl, hb⟩
            have HZ4 := hide ((unhide hZ).below hb)
            have HU4 := hide ((unhide hU).below hb)
            have HB4 := hide (below_next (unhide hB) hb)
            have HO4 := hide (OwnI.below (unhide hO) hb (Nat.le_refl _))
            clear hb c0 c1 c2 o0 o1 o2 of0 of1 of2 su sk
            have d0 : w4.cell? ⟨w.heap.size + 1, 0, none⟩ = some (.int .i64 0) := (unhide HZ4).cell 0
            have d1 : w4.cell? ⟨w.heap.size + 1, 1, none⟩ = some (.int .i64 0) := (unhide HZ4).cell 1
            have d2 : w4.cell? ⟨w.heap.size + 1, 2, none⟩ = some (.slice none 0 0) := (unhide HZ4).cell 2
            have df0 : w4.frozen? ⟨w.heap.size + 1, 0, none⟩ = false := (unhide HZ4).frozen 0
            have df1 : w4.frozen? ⟨w.heap.size + 1, 1, none⟩ = false := (unhide HZ4).frozen 1
            have df2 : w4.frozen? ⟨w.heap.size + 1, 2, none⟩ = false := (unhide HZ4).frozen 2
            have o0 : w4.cell? ⟨w1.heap.size + 1, 0, none⟩ = some (.int .i64 st) := (unhide HU4).cell 0
            have o1 : w4.cell? ⟨w1.heap.size + 1, 1, none⟩ = some (.int .i64 sa) := (unhide HU4).cell 1
            have o2 : w4.cell? ⟨w1.heap.size + 1, 2, none⟩ = some (.slice A' k c') := (unhide HU4).cell 2
            have of0 : w4.frozen? ⟨w1.heap.size + 1, 0, none⟩ = false := (unhide HU4).frozen 0
            have of1 : w4.frozen? ⟨w1.heap.size + 1, 1, none⟩ = false := (unhide HU4).frozen 1
            have of2 : w4.frozen? ⟨w1.heap.size + 1, 2, none⟩ = false := (unhide HU4).frozen 2
            have su : w1.heap.size + 1 < w4.heap.size := (unhide HU4).lt
            have sz : w.heap.size + 1 < w4.heap.size := (unhide HZ4).lt
            go_wp2_with fail
            refine bodyPost_ret (v := .tuple #[.agg #[.int .i64 st, .int .i64 sa, .slice A' k c'], .bool true]) (by simp [results, Try.results29, go_sem, *]) rfl ?_
            rw [unhide HRR2]
            exact ⟨A', k, c', rfl, ((((unhide HO4).setB (show w.heap.size + 1 < w.heap.size + 2 by omega) _).setB (show w.heap.size + 1 < w.heap.size + 2 by omega) _).setB (show w.heap.size + 1 < w.heap.size + 2 by omega) _).less (by omega), below_set3 (unhide HB4) (Nat.le_succ _) _ _ _⟩

end Go.Proofs.Ytdpmpdhhjmbbcaa
