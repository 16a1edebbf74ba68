/- Chapter 5, the walks: two tracks that the reference draws; a track and a mark. (By gen_drawM.py.) -/
import Derived.Test.YtmpgafanlgnpeaaProg
import Derived.Test.YtmpgafanlgnpeaaDrawL
import Derived.Test.YtmpgafanlgnpeaaPut
import Derived.Deep.RegionHeld3
import Derived.Deep.RegionLawGrows
import Derived.Deep.DeepCutAuto
namespace Go.Proofs.Ytmpgafanlgnpeaa
open Go.RowKit

/-- two tracks are drawn -/
def RetTT (w : World) (e : Ending) (w' : World) : Prop :=
  ∃ (A1 : Option Addr) (n1 c1 : Nat) (ts : List (Int × Int)) (A2 : Option Addr) (n2 c2 : Nat) (us : List (Int × Int)), e = .returned (.tuple #[.slice A1 n1 c1, .slice A2 n2 c2]) ∧ OwnP w' w.heap.size 43 A1 n1 c1 ts ∧ OwnP w' w.heap.size 43 A2 n2 c2 us ∧ n1 ≤ 12 ∧ n2 ≤ 12 ∧ Below w.heap.size w w'
/-- a track and a mark are drawn -/
def RetTM (w : World) (e : Ending) (w' : World) : Prop :=
  ∃ (A1 : Option Addr) (n1 c1 : Nat) (ts : List (Int × Int)) (x y : Int), e = .returned (.tuple #[.slice A1 n1 c1, .agg #[.int .i64 x, .int .i64 y]]) ∧ OwnP w' w.heap.size 43 A1 n1 c1 ts ∧ n1 ≤ 12 ∧ Below w.heap.size w w'
/-- an append to an empty row makes a new one -/
theorem step_fresh_marks {w : World} {ops : Array Oper} {o : Oper} {a : Act} {K : Act → World → Prop} {Q : Exit → Act → World → Prop} {E : Prop} (hgd : o.guard = none) (s x : Operand)
    (ho : o.op = .call { callee := .builtin .append, args := #[s, x], argTypes := #[25, 25] })
    (b : Addr) (hs : a.eval s = .slice (some b) 0 0) (ad : Addr) (m c2 L : Nat) (ys : List (Int × Int)) (hx : a.eval x = .slice (some ad) m c2) (hr : RP w L (some ad) m ys) (hm : 0 < m) (hn : m ≤ 1000000)
    (h : ∀ A' c' w', OwnP w' w.heap.size 43 A' m c' ys → Below w.heap.size w w' → K (a.put o.dst (.slice A' m c')) w') : if Region.wanted o (yielded ops a.tmps) = true then Oper.wp Try.prog o a w K Q else E := by
  obtain ⟨i0, hi, hz0, hz1, hz2⟩ := info_parts info_ClockMark
  obtain ⟨ad', had, _, hc⟩ := hr.2 hm
  obtain rfl : ad = ad' := by injection had
  refine step_append_grows hgd s x 25 ho 43 i0 (.agg #[.int .i64 0, .int .i64 0]) 2 16 Try.underlying25 hi hz0 hz1 hz2 rfl (by decide) (some b) 0 0 [] hs (fun e => by cases e) rfl (fun _ _ j u e => by simp at e) ad m c2 (cP ys) hx hr.1 hc (cP_one ys) (by omega) (by unfold maxLen; omega) (by omega) ?_
  intro v' w' h1 h2
  rw [List.nil_append] at h1
  rcases h1.2 with ⟨_, h0⟩ | ⟨g, cap, cur, rfl, hg, hh, hle, hmx, hsz, htk⟩
  · omega
  · have e : 0 + m = m := Nat.zero_add m
    rw [e] at h1 ⊢
    exact h _ _ _ h1 ((Below.refl _ w).grown h2 (Nat.le_refl _) (by simp))
theorem fresh_less {w wq w' : World} {A : Option Addr} {n c : Nat} {xs : List (Int × Int)} (hb : Below wq.heap.size wq w) (h : OwnP w' w.heap.size 43 A n c xs) : OwnP w' wq.heap.size 43 A n c xs := h.less hb.size

set_option maxHeartbeats 4000000 in
set_option maxRecDepth 100000 in
theorem drawMergeTracks_any (A : Option Addr) (n c : Nat) (xs : List Int) (w : World) (hr : RB w w.heap.size A n xs) (hn : n ≤ 65536) :
    Calls Try.prog 55 #[.slice A n c] w (RetTT w) := by
  have HC := hide (Cur.new c hr)
  clear hr
  go_enter Try.func55, Try.ntmps55
  go_wp2_with fail
  refine (track_any w.heap.size n c 0 A xs _ (unhide HC) (by omega) (by omega)).mono ?_
  rintro e w1 ⟨A', n', c', ts, rfl, hO, ⟨h1, h2⟩, hC, hg⟩
  have HB := hide (below_cur ((Below.refl _ w).alloc (Nat.le_refl _) _) hg (Nat.le_refl _))
  have HO := hide (OwnP.less hO (lo' := w.heap.size + 1) (by simp))
  have HC1 := hide hC
  clear hO hC hg HC
  by_cases h3 : 3 < n'
  · have l1 : (3 : Int) < (n' : Int) := by omega
    go_wp2_with fail
    refine (one_any w.heap.size n c _ A xs 2 w1 (unhide HC1) (by omega) (by omega) (by omega) (by omega)).mono ?_
    rintro e w2 ⟨b, rfl, hC, hg⟩
    have HB2 := hide (below_cur (unhide HB) hg (Nat.le_refl _))
    have HO2 := hide ((unhide HO).gr hg (by omega))
    have HC2 := hide hC
    clear hC hg HC1 HB HO
    rcases b with _ | _
    · have l9 := HB2
      go_wp2_with fail
      refine (track_any w.heap.size n c _ A xs w2 (unhide HC2) (by omega) (by omega)).mono ?_
      rintro e w3 ⟨A2, n2, c2, us, rfl, hO, ⟨h4, h5⟩, hC, hg⟩
      have HB3 := hide (below_cur (unhide HB2) hg (Nat.le_refl _))
      have HO3 := hide ((unhide HO2).gr hg (by omega))
      have HU3 := hide (OwnP.less hO (lo' := w.heap.size) (by have := (unhide HB2).size; omega))
      clear hO hC hg HC2
      go_wp2_with fail
      go_ret2
      exact ⟨A', n', c', ts, A2, n2, c2, us, rfl, OwnP.less (unhide HO3) (by omega), unhide HU3, h2, h5, unhide HB3⟩
    · obtain ⟨gt, rfl, _, _, hcap⟩ := (unhide HO2).form (by omega)
      have HT1 := hide ((unhide HO2).rp.take (k := 3) (by omega))
      have HT2 : Hid (RP w2 w2.heap.size (some ((⟨gt, 0, none⟩ : Addr).add (1 * 2))) (n' - 1) (ts.drop 1)) := by
        have h9 := (unhide HO2).rp.cut (k := 1) (cap := c') (by omega) hcap
        rw [if_neg (by omega)] at h9
        exact h9
      have l2 : (3 : Int) ≤ (n' : Int) := by omega
      have l3 : (1 : Int) ≤ (n' : Int) := by omega
      have l4 : 3 ≤ c' := by omega
      have l5 : ¬ c' = 1 := by omega
      have l6 : 3 ≤ n' := by omega
      have l7 : 1 ≤ c' := by omega
      have l8 : (3 : Int) ≤ (c' : Int) := by omega
      have l9 : (1 : Int) ≤ (c' : Int) := by omega
      have l10 : (n' : Int) ≤ (c' : Int) := by omega
      have l11 : 0 < n' := by omega
      have l12 : ¬ n' = 0 := by omega
      have l13 : (0 : Int) < (n' : Int) := by omega
      have l14 : ¬ c' = 3 ∨ c' = 3 := by omega
      clear HC2
      go_wp2_with fail
      go_region_held3 (fun w' => True)
        (trivial)
        (first
          | (refine step_fresh_marks (by rfl) _ _ (by rfl) _ (by rfl) _ 3 _ w2.heap.size (ts.take 3) (by rfl) ?_ ?_ ?_ ?_; (exact (unhide HT1).below (by (repeat (first | with_reducible exact unhide HX7 | with_reducible exact unhide HX6 | with_reducible exact Below.refl _ _ | with_reducible refine Below.drew ?_ | refine Below.alloc ?_ (by first | omega | (simp <;> omega)) _)))); omega; omega; intro A6 c6 w6 hO hB; have HO6 := hide (fresh_less (wq := w2) (by (repeat (first | with_reducible exact unhide HX7 | with_reducible exact unhide HX6 | with_reducible exact Below.refl _ _ | with_reducible refine Below.drew ?_ | refine Below.alloc ?_ (by first | omega | (simp <;> omega)) _))) hO); (first | have HY76 : Hid (Below w7.heap.size w7 w6) := hide (below_next (by (repeat (first | with_reducible exact Below.refl _ _ | with_reducible refine Below.drew ?_ | refine Below.alloc ?_ (by first | omega | (simp <;> omega)) _))) hB) | skip); have HX6 : Hid (Below w2.heap.size w2 w6) := hide (below_next (by (repeat (first | with_reducible exact unhide HX7 | with_reducible exact unhide HX6 | with_reducible exact Below.refl _ _ | with_reducible refine Below.drew ?_ | refine Below.alloc ?_ (by first | omega | (simp <;> omega)) _))) hB); have hs6 := (unhide HX6).size; clear hO hB)
          | (refine step_fresh_marks (by rfl) _ _ (by rfl) _ (by rfl) _ (n' - 1) _ w2.heap.size (ts.drop 1) (by rfl) ?_ ?_ ?_ ?_; (exact (unhide HT2).below (by (repeat (first | with_reducible exact unhide HX7 | with_reducible exact unhide HX6 | with_reducible exact Below.refl _ _ | with_reducible refine Below.drew ?_ | refine Below.alloc ?_ (by first | omega | (simp <;> omega)) _)))); omega; omega; intro A7 c7 w7 hO hB; have HO7 := hide (fresh_less (wq := w2) (by (repeat (first | with_reducible exact unhide HX7 | with_reducible exact unhide HX6 | with_reducible exact Below.refl _ _ | with_reducible refine Below.drew ?_ | refine Below.alloc ?_ (by first | omega | (simp <;> omega)) _))) hO); (first | have HY67 : Hid (Below w6.heap.size w6 w7) := hide (below_next (by (repeat (first | with_reducible exact Below.refl _ _ | with_reducible refine Below.drew ?_ | refine Below.alloc ?_ (by first | omega | (simp <;> omega)) _))) hB) | skip); have HX7 : Hid (Below w2.heap.size w2 w7) := hide (below_next (by (repeat (first | with_reducible exact unhide HX7 | with_reducible exact unhide HX6 | with_reducible exact Below.refl _ _ | with_reducible refine Below.drew ?_ | refine Below.alloc ?_ (by first | omega | (simp <;> omega)) _))) hB); have hs7 := (unhide HX7).size; clear hO hB))
      all_goals
        go_wp2_with fail
        go_ret2
        first
          | exact ⟨A6, 3, c6, _, A7, n' - 1, c7, _, rfl, OwnP.less ((unhide HO6).below (unhide HY67) (Nat.le_refl _)) (unhide HB2).size, OwnP.less (unhide HO7) (unhide HB2).size, by omega, by omega, below_next (unhide HB2) (unhide HX7)⟩
          | exact ⟨A6, 3, c6, _, A7, n' - 1, c7, _, rfl, OwnP.less (unhide HO6) (unhide HB2).size, OwnP.less ((unhide HO7).below (unhide HY76) (Nat.le_refl _)) (unhide HB2).size, by omega, by omega, below_next (unhide HB2) (unhide HX6)⟩
  · have l1 : ¬ (3 : Int) < (n' : Int) := by omega
    have HC2 := HC1
    have HB2 := HB
    have HO2 := HO
    clear HC1 HB HO
    obtain ⟨w2, rfl⟩ : ∃ w2 : World, w2 = w1 := ⟨_, rfl⟩
    go_wp2_with fail
    refine (track_any w.heap.size n c _ A xs w2 (unhide HC2) (by omega) (by omega)).mono ?_
    rintro e w3 ⟨A2, n2, c2, us, rfl, hO, ⟨h4, h5⟩, hC, hg⟩
    have HB3 := hide (below_cur (unhide HB2) hg (Nat.le_refl _))
    have HO3 := hide ((unhide HO2).gr hg (by omega))
    have HU3 := hide (OwnP.less hO (lo' := w.heap.size) (by have := (unhide HB2).size; omega))
    clear hO hC hg HC2
    go_wp2_with fail
    go_ret2
    exact ⟨A', n', c', ts, A2, n2, c2, us, rfl, OwnP.less (unhide HO3) (by omega), unhide HU3, h2, h5, unhide HB3⟩

set_option maxHeartbeats 4000000 in
set_option maxRecDepth 100000 in
theorem drawAddClockMark_any (A : Option Addr) (n c : Nat) (xs : List Int) (w : World) (hr : RB w w.heap.size A n xs) (hn : n ≤ 65536) :
    Calls Try.prog 58 #[.slice A n c] w (RetTM w) := by
  have HC : Hid (Cur ((w.alloc (.cells #[.int .i64 0, .int .i64 0] 43)).alloc (.cells #[.slice A n c, .int .i64 0, .int .u64 0] 86)) (w.heap.size + 1) A n c xs 0) := by
    have h9 := Cur.new c (RB.later hr ((Below.refl _ w).alloc (Nat.le_refl _) (.cells #[.int .i64 0, .int .i64 0] 43)))
    simpa [Hid] using h9
  clear hr
  go_enter Try.func58, Try.ntmps58
  go_wp2_with fail
  have HZ0 : Hid (Whl ((w.alloc (.cells #[.int .i64 0, .int .i64 0] 43)).alloc (.cells #[.slice A n c, .int .i64 0, .int .u64 0] 86)) w.heap.size 43 #[.int .i64 0, .int .i64 0]) := (Whl.here w _ _).alloc _
  have HB0 : Hid (Below w.heap.size w ((w.alloc (.cells #[.int .i64 0, .int .i64 0] 43)).alloc (.cells #[.slice A n c, .int .i64 0, .int .u64 0] 86))) := ((Below.refl _ w).alloc (Nat.le_refl _) _).alloc (by simp) _
  have hs0 : w.heap.size + 2 ≤ ((w.alloc (.cells #[.int .i64 0, .int .i64 0] 43)).alloc (.cells #[.slice A n c, .int .i64 0, .int .u64 0] 86)).heap.size := by simp
  generalize (w.alloc (.cells #[.int .i64 0, .int .i64 0] 43)).alloc (.cells #[.slice A n c, .int .i64 0, .int .u64 0] 86) = w0 at *
  refine (track_any (w.heap.size + 1) n c 0 A xs w0 (unhide HC) (by omega) (by omega)).mono ?_
  rintro e w1 ⟨A', n', c', ts, rfl, hO, ⟨h1, h2⟩, hC, hg⟩
  have HB := hide (below_cur (unhide HB0) hg (by omega))
  have HO := hide (OwnP.less hO (lo' := w.heap.size + 2) (by omega))
  have HZ := hide ((unhide HZ0).gr hg (by omega))
  have HC1 := hide hC
  clear hO hC hg HC HB0 HZ0 hs0
  go_wp2_with fail
  refine (pick_any (w.heap.size + 1) n c _ A xs n' w1 (unhide HC1) (by omega) (by omega) (by omega) (by omega)).mono ?_
  rintro e w2 ⟨q, rfl, ⟨q0, q1⟩, hC, hg⟩
  obtain ⟨j, rfl⟩ : ∃ k : Nat, q = (k : Int) := ⟨q.toNat, by omega⟩
  have hj : j < n' := by omega
  have HB2 := hide (below_cur (unhide HB) hg (by omega))
  have HO2 := hide ((unhide HO).gr hg (by omega))
  have HZ2 := hide ((unhide HZ).gr hg (by omega))
  have HC2 := hide hC
  clear hC hg HC1 HB HO HZ q0
  obtain ⟨gt, rfl, _, _, hcap⟩ := (unhide HO2).form (by omega)
  obtain ⟨p0, p1, hx, c0, c1, _, _⟩ := (unhide HO2).el hj
  have l1 : (j : Int) < (n' : Int) := by omega
  have l2 : (0 : Int) ≤ (j : Int) := by omega
  clear hx
  go_wp2_with fail
  refine (among_lit (w.heap.size + 1) n c _ _ A xs (w2.alloc (.cells #[.int .i64 p0, .int .i64 p1] 43)) (by simp) [1, 3, 8000, 0, -1] 5 _ (fun _ => True) rfl rfl (by omega) (by omega) (by simp) ((unhide HC2).alloc _) (by omega) (by omega)).mono ?_
  rintro e w3 ⟨d, rfl, _, hC, hg⟩
  have hz2 := (unhide HZ2).lt
  have hs2 := (unhide HB2).size
  have hcl := (unhide HC2).lt
  have HM3 := hide (Whl.gr (Whl.here w2 43 #[.int .i64 p0, .int .i64 p1]) hg (by omega))
  have HB3 := hide (below_cur ((unhide HB2).alloc hs2 _) hg (by omega))
  have HO3 := hide (((unhide HO2).alloc (.cells #[.int .i64 p0, .int .i64 p1] 43)).gr hg (by omega))
  have HZ3 := hide (((unhide HZ2).alloc (.cells #[.int .i64 p0, .int .i64 p1] 43)).gr hg (by omega))
  have HC3 := hide hC
  clear hC hg HC2 HB2 HO2 HZ2 c0 c1
  have k0 : w3.cell? ⟨w2.heap.size, 0, none⟩ = some (.int .i64 p0) := (unhide HM3).cell 0
  have k1 : w3.cell? ⟨w2.heap.size, 1, none⟩ = some (.int .i64 p1) := (unhide HM3).cell 1
  have hn2 : n ≤ 1048576 := by omega
  have hne1 : w.heap.size + 1 ≠ w2.heap.size := by omega
  have hne2 : w.heap.size + 1 ≠ w.heap.size := by omega
  have hne3 : w2.heap.size ≠ w.heap.size := by omega
  generalize w2.heap.size = gm at *
  go_wp2_with fail
  go_region_held3 (fun w' => w'.cell? ⟨gm, 0, none⟩ = some (.int .i64 p0) ∧ w'.cell? ⟨gm, 1, none⟩ = some (.int .i64 p1))
    (((with_reducible refine two_cells (T := 43) ?_); (repeat (first | with_reducible exact unhide HM4 | with_reducible exact unhide HM3 | with_reducible refine Whl.drew ?_ | refine Whl.far ?_ hne3 _))))
    (first
      | (go_at_call 88; refine (pick_any (w.heap.size + 1) n c (0 + 100 + 2 + 2) A xs 2 _ ?_ hn2 (by omega) (by decide) (by decide)).mono ?_; (repeat (first | with_reducible exact unhide HC3 | with_reducible refine Cur.drew ?_)); rintro e w4 ⟨z, rfl, _, hC, hg⟩; have HM4 : Hid (Whl w4 gm 43 #[.int .i64 p0, .int .i64 p1]) := hide (Whl.gr (by (repeat (first | with_reducible exact unhide HM3 | with_reducible refine Whl.drew ?_))) hg hne1); have HZ4 : Hid (Whl w4 w.heap.size 43 #[.int .i64 0, .int .i64 0]) := hide (Whl.gr (by (repeat (first | with_reducible exact unhide HZ3 | with_reducible refine Whl.drew ?_))) hg hne2); have HO4 : Hid (OwnP w4 (w.heap.size + 2) 43 (some ⟨gt, 0, none⟩) n' c' ts) := hide (OwnP.gr (by (repeat (first | with_reducible exact unhide HO3 | with_reducible refine OwnP.dr ?_))) hg (Nat.lt_succ_self _)); have HB4 : Hid (Below w.heap.size w w4) := hide (below_cur (by (repeat (first | with_reducible exact unhide HB3 | with_reducible refine Below.drew ?_))) hg (Nat.le_succ _)); clear hC hg; have z0 : w4.cell? ⟨w.heap.size, 0, none⟩ = some (.int .i64 0) := (unhide HZ4).cell 0; have z1 : w4.cell? ⟨w.heap.size, 1, none⟩ = some (.int .i64 0) := (unhide HZ4).cell 1; have f0 : w4.frozen? ⟨w.heap.size, 0, none⟩ = false := (unhide HZ4).frozen 0; have f1 : w4.frozen? ⟨w.heap.size, 1, none⟩ = false := (unhide HZ4).frozen 1))
  all_goals
    generalize IntKind.i64.wrap (p0 + d) = X at *
    generalize IntKind.i64.wrap (IntKind.i64.wrap (p1 + d) + z) = Y at *
    have HZ5 : Hid (Whl ((w4.setCell ⟨w.heap.size, 0, none⟩ (.int .i64 X)).setCell ⟨w.heap.size, 1, none⟩ (.int .i64 Y)) w.heap.size 43 #[.int .i64 X, .int .i64 Y]) := hide (((unhide HZ4).store 0 (.int .i64 X)).store 1 (.int .i64 Y))
    have HO5 : Hid (OwnP ((w4.setCell ⟨w.heap.size, 0, none⟩ (.int .i64 X)).setCell ⟨w.heap.size, 1, none⟩ (.int .i64 Y)) (w.heap.size + 2) 43 (some ⟨gt, 0, none⟩) n' c' ts) := hide (ownsRow_setCell_below (a := ⟨w.heap.size, 1, none⟩) (ownsRow_setCell_below (a := ⟨w.heap.size, 0, none⟩) (unhide HO4) (by show w.heap.size < w.heap.size + 2; omega) _) (by show w.heap.size < w.heap.size + 2; omega) _)
    have HB5 : Hid (Below w.heap.size w ((w4.setCell ⟨w.heap.size, 0, none⟩ (.int .i64 X)).setCell ⟨w.heap.size, 1, none⟩ (.int .i64 Y))) := hide (((unhide HB4).setCell (p := ⟨w.heap.size, 0, none⟩) (Nat.le_refl _) _).setCell (p := ⟨w.heap.size, 1, none⟩) (Nat.le_refl _) _)
    clear HZ4 HO4 HB4 HM4 HM3 HO3 HZ3 HC3 HB3 z0 z1 f0 f1
    generalize (w4.setCell ⟨w.heap.size, 0, none⟩ (.int .i64 X)).setCell ⟨w.heap.size, 1, none⟩ (.int .i64 Y) = w5 at *
    have y0 : w5.cell? ⟨w.heap.size, 0, none⟩ = some (.int .i64 X) := (unhide HZ5).cell 0
    have y1 : w5.cell? ⟨w.heap.size, 1, none⟩ = some (.int .i64 Y) := (unhide HZ5).cell 1
    have y2 : w5.frozen? ⟨w.heap.size, 0, none⟩ = false := (unhide HZ5).frozen 0
    have y3 : w5.frozen? ⟨w.heap.size, 1, none⟩ = false := (unhide HZ5).frozen 1
    go_wp2_with fail
    refine bodyPost_ret (v := .tuple #[.slice (some ⟨gt, 0, none⟩) n' c', .agg #[.int .i64 X, .int .i64 Y]]) (by simp [results, Try.results58, go_sem, y0, y1, y2, y3]) rfl ?_
    exact ⟨_, n', c', ts, X, Y, rfl, OwnP.less (unhide HO5) (by omega), h2, unhide HB5⟩
end Go.Proofs.Ytmpgafanlgnpeaa
