/- Chapter 5, the walks: what the laws draw; a list against a list; a big input. -/
import Derived.Test.YtmpgafanlgnpeaaProg
import Derived.Test.YtmpgafanlgnpeaaDrawP
namespace Go.Proofs.Ytmpgafanlgnpeaa
open Go.RowKit

theorem RB.later {w W : World} {A : Option Addr} {n : Nat} {xs : List Int} (h : RB w w.heap.size A n xs) (hb : Below w.heap.size w W) : RB W W.heap.size A n xs := ⟨(h.1.below hb).more hb.size, h.2⟩
theorem rBig_any (A : Option Addr) (n c : Nat) (w : World) : Calls Try.prog 47 #[.slice A n c] w fun e w' => e = .returned (.bool (decide (65536 < n))) ∧ w = w' := by
  by_cases h : 65536 < n
  · have h1 : (65536 : Int) < (n : Int) := by omega
    go_enter Try.func47, Try.ntmps47
    go_wp2_with fail
    go_ret
    exact ⟨by simp [h], rfl⟩
  · have h1 : ¬ (65536 : Int) < (n : Int) := by omega
    go_enter Try.func47, Try.ntmps47
    go_wp2_with fail
    go_ret
    exact ⟨by simp [h], rfl⟩
/-- a new cursor -/
theorem Cur.new {w : World} {A : Option Addr} {n : Nat} {xs : List Int} (c : Nat) (h : RB w w.heap.size A n xs) : Cur (w.alloc (.cells #[.slice A n c, .int .i64 0, .int .u64 0] 86)) w.heap.size A n c xs 0 :=
  ⟨⟨h.1.below ((Below.refl _ w).alloc (Nat.le_refl _) _), h.2⟩, 0, 0, Nat.le_refl _, Whl.here w _ _⟩
/-- marks and a number are drawn -/
def RetTI (w : World) (e : Ending) (w' : World) : Prop :=
  ∃ (A' : Option Addr) (n' c' : Nat) (ts : List (Int × Int)) (x : Int), e = .returned (.tuple #[.slice A' n' c', .int .i64 x]) ∧ OwnP w' w.heap.size 43 A' n' c' ts ∧ n' ≤ 12 ∧ Below w.heap.size w w'
def RetT (w : World) (e : Ending) (w' : World) : Prop :=
  ∃ (A' : Option Addr) (n' c' : Nat) (ts : List (Int × Int)), e = .returned (.slice A' n' c') ∧ OwnP w' w.heap.size 43 A' n' c' ts ∧ n' ≤ 12 ∧ Below w.heap.size w w'

theorem drawIsTrack_any (A : Option Addr) (n c : Nat) (xs : List Int) (w : World) (hr : RB w w.heap.size A n xs) (hn : n ≤ 65536) :
    Calls Try.prog 86 #[.slice A n c] w (RetT w) := by
  have HC := hide (Cur.new c hr)
  clear hr
  go_enter Try.func86, Try.ntmps86
  go_wp2_with fail
  refine (track_any w.heap.size n c 0 A xs _ (unhide HC) (by omega) (by omega)).mono ?_
  rintro e w1 ⟨A', n', c', ts, rfl, hO, ⟨h1, h2⟩, hC, hg⟩
  have HB := hide (below_cur ((Below.refl _ w).alloc (Nat.le_refl _) _) hg (Nat.le_refl _))
  have HO := hide (OwnP.less hO (lo' := w.heap.size) (by simp))
  clear hO hC hg
  go_wp2_with fail
  go_ret
  exact ⟨A', n', c', ts, rfl, unhide HO, h2, unhide HB⟩

/-- which of the last choices are taken -/
theorem quo11 (k : Int) (m : Nat) (h0 : 1 ≤ k) (h1 : k ≤ 20) (hm : k + 2 = (m : Int)) {y : Int} (y0 : 0 ≤ y) (y1 : y < 24) : ∃ (z : Int) (h : Nat), y.tdiv 11 = z ∧ IntKind.i64.wrap z = z ∧ IntKind.i64.wrap (k + z) = (h : Int) ∧ (h : Int) ≤ (m : Int) ∧ h ≤ m ∧ 1 ≤ h := by
  have e : y.tdiv 11 = y / 11 := Int.tdiv_eq_ediv_of_nonneg y0
  refine ⟨y / 11, (k + y / 11).toNat, e, ?_, ?_, by omega, by omega, by omega⟩
  · rw [IntWalk.i64_in _ (by omega)]
  · rw [IntWalk.i64_in _ (by omega)]; omega
/-- some tick, mostly near the marks -/
theorem shown5_any (g n c b lo : Nat) (A : Option Addr) (xs : List Int) (T : Option Addr) (m d : Nat) (ts : List (Int × Int)) (w : World) (h : Cur w g A n c xs b) (hn : n ≤ 1048576) (hb : b ≤ 1000000)
    (hT : OwnP w lo 43 T m d ts) (hlo : g < lo) (h1 : 1 ≤ m) (h2 : m ≤ 12) :
    Calls Try.prog 85 #[.pointer (some ⟨g, 0, none⟩), .slice T m d] w (RetC w g A n c xs (b + 6) fun _ => True) := by
  have HP := hide (pick_any g n c b A xs m w h hn (by omega) (by omega) (by omega))
  have HT := hide hT
  have hgl := h.lt
  clear h hT
  go_enter Try.func85, Try.ntmps85
  go_wp2_with fail
  refine (unhide HP).mono ?_
  rintro e w1 ⟨x, rfl, ⟨x0, x1⟩, hC, hg⟩
  obtain ⟨k, rfl⟩ : ∃ k : Nat, x = (k : Int) := ⟨x.toNat, by omega⟩
  have hT1 := (unhide HT).gr hg hlo
  obtain ⟨ad, p, q, rfl, hbx, hx, hc0, hc1⟩ := hT1.rp.get (k := k) (by omega)
  have HC1 := hide hC
  have HG1 := hide hg
  clear hC hg hT1 HT HP hx
  go_wp2_with fail
  have HC2 := hide ((unhide HC1).alloc (.cells #[.int .i64 p, .int .i64 q] 43))
  have K2 : Hid (Whl (w1.alloc (.cells #[.int .i64 p, .int .i64 q] 43)) w1.heap.size 43 #[.int .i64 p, .int .i64 q]) := Whl.here w1 _ _
  have HG2 := hide (grown_alloc (unhide HG1) (.cells #[.int .i64 p, .int .i64 q] 43))
  have hgk : g ≠ w1.heap.size := by have := (unhide HG1).size; omega
  generalize w1.heap.size = kb at *
  generalize w1.alloc (.cells #[.int .i64 p, .int .i64 q] 43) = w2 at *
  clear hc0 hc1
  have hgw : g ≠ w2.heap.size := (new_ne_cur (unhide HC2)).symm
  obtain ⟨a1, ha1⟩ : ∃ a, IntKind.i64.wrap (p + 1) = a := ⟨_, rfl⟩
  obtain ⟨a2, ha2⟩ : ∃ a, IntKind.i64.wrap (p - 1) = a := ⟨_, rfl⟩
  obtain ⟨a3, ha3⟩ : ∃ a, IntKind.i64.wrap (p + 5) = a := ⟨_, rfl⟩
  have k0 : w2.cell? ⟨kb, 0, none⟩ = some (.int .i64 p) := (unhide K2).cell 0
  have k1 : w2.cell? ⟨kb, 1, none⟩ = some (.int .i64 q) := (unhide K2).cell 1
  go_region_held3 (fun w' => w'.cell? ⟨kb, 0, none⟩ = some (.int .i64 p) ∧ w'.cell? ⟨kb, 1, none⟩ = some (.int .i64 q))
    (((with_reducible refine two_cells (T := 43) ?_); (repeat (first | with_reducible exact unhide K4 | with_reducible exact unhide K3 | with_reducible exact unhide K2 | with_reducible refine Whl.alloc ?_ _ | with_reducible refine Whl.drew ?_))))
    (first
      | (go_at_call 88; refine (pick_any g n c (b + 2) A xs 24 _ ?_ hn ?_ ?_ ?_).mono ?_; (repeat (first | with_reducible exact unhide HC2 | with_reducible refine Cur.drew ?_ | with_reducible refine Cur.alloc ?_ _)); omega; omega; omega; rintro e wy ⟨y, rfl, ⟨y0, y1⟩, hC, hg⟩; have HC3 := hide hC; have HG3 : Hid (w.grownBy wy (some g)) := hide (grownBy_trans (by (repeat (first | with_reducible exact unhide HG2 | with_reducible refine grown_dr ?_ | with_reducible refine grown_alloc ?_ _))) hg); have K3 : Hid (Whl wy kb 43 #[.int .i64 p, .int .i64 q]) := hide (Whl.gr (by (repeat (first | with_reducible exact unhide K2 | with_reducible refine Whl.drew ?_ | with_reducible refine Whl.alloc ?_ _))) hg hgk); clear hC; obtain ⟨z, hh, z1, z2, z3, z4, z5, z6⟩ := quo11 7 9 (by decide) (by decide) rfl y0 y1; have z8 : (hh : Int) ≤ 9 := z4; (first | (have HL3 : Hid (Whl wy w2.heap.size 3 (cI [p, q, a1, a2, a3, 0, 1000000, -1, 1000001]).toArray) := hide (Whl.gr (Whl.drew (Whl.here w2 _ _)) hg hgw)) | (have HL3 : Hid (Whl wy w2.heap.size 3 (cI [p, q, a1, a2, a3, 0, 1000000, -1, 1000001]).toArray) := hide (Whl.gr (Whl.here w2 _ _) hg hgw)) | skip); clear hg)
      | (go_at_call 87; refine (among_some g n c (b + 2 + 2) _ A xs _ [p, q, a1, a2, a3, 0, 1000000, -1, 1000001] hh 9 ?_ ?_ z6 z5 ?_ ?_ hn ?_).mono ?_; (first | exact unhide HL3 | exact Whl.drew (unhide HL3) | ((repeat (with_reducible refine Whl.drew ?_)); (exact Whl.here _ _ _))); (first | exact hgw.symm | exact new_ne_cur (unhide HC3)); (simp); (repeat (first | with_reducible exact unhide HC3 | with_reducible refine Cur.drew ?_ | with_reducible refine Cur.alloc ?_ _)); omega; rintro e wv ⟨v, rfl, _, hC, hg⟩; have HC4 := hide hC; have HG4 : Hid (w.grownBy wv (some g)) := hide (grownBy_trans (by (repeat (first | with_reducible exact unhide HG3 | with_reducible refine grown_dr ?_ | with_reducible refine grown_alloc ?_ _))) hg); have K4 : Hid (Whl wv kb 43 #[.int .i64 p, .int .i64 q]) := hide (Whl.gr (by (repeat (first | with_reducible exact unhide K3 | with_reducible refine Whl.drew ?_ | with_reducible refine Whl.alloc ?_ _))) hg hgk); clear hC hg))
  all_goals
    go_wp2_with fail
    go_ret
    exact ⟨v, rfl, trivial, (unhide HC4).more (by omega), unhide HG4⟩

theorem drawTrueTick_any (A : Option Addr) (n c : Nat) (xs : List Int) (w : World) (hr : RB w w.heap.size A n xs) (hn : n ≤ 65536) :
    Calls Try.prog 48 #[.slice A n c] w (RetTI w) := by
  have HC := hide (Cur.new c hr)
  clear hr
  go_enter Try.func48, Try.ntmps48
  go_wp2_with fail
  refine (track_any w.heap.size n c 0 A xs _ (unhide HC) (by omega) (by omega)).mono ?_
  rintro e w1 ⟨A', n', c', ts, rfl, hO, ⟨h1, h2⟩, hC, hg⟩
  have HB := hide (below_cur ((Below.refl _ w).alloc (Nat.le_refl _) _) hg (Nat.le_refl _))
  have HO := hide (OwnP.less hO (lo' := w.heap.size + 1) (by simp))
  have HC1 := hide hC
  clear hO hC hg HC
  go_wp2_with fail
  refine (shown5_any w.heap.size n c _ (w.heap.size + 1) A xs A' n' c' ts w1 (unhide HC1) (by omega) (by omega) (unhide HO) (by omega) h1 h2).mono ?_
  rintro e w2 ⟨x, rfl, _, hC, hg⟩
  have HB2 := hide (below_cur (unhide HB) hg (Nat.le_refl _))
  have HO2 := hide ((unhide HO).gr hg (by omega))
  clear hC hg HC1
  go_wp2_with fail
  go_ret2
  exact ⟨A', n', c', ts, x, rfl, OwnP.less (unhide HO2) (by omega), h2, unhide HB2⟩
theorem drawShownTick_any (A : Option Addr) (n c : Nat) (xs : List Int) (w : World) (hr : RB w w.heap.size A n xs) (hn : n ≤ 65536) :
    Calls Try.prog 49 #[.slice A n c] w (RetTI w) := by
  have HP := hide (drawTrueTick_any A n c xs w hr hn)
  clear hr
  go_enter Try.func49, Try.ntmps49
  go_wp2_with fail
  refine (unhide HP).mono ?_
  rintro e w1 ⟨A', n', c', ts, x, rfl, hO, h2, hb⟩
  go_wp2_with fail
  go_ret2
  exact ⟨A', n', c', ts, x, rfl, hO, h2, hb⟩
theorem drawSpanOffsets_any (A : Option Addr) (n c : Nat) (xs : List Int) (w : World) (hr : RB w w.heap.size A n xs) (hn : n ≤ 65536) :
    Calls Try.prog 50 #[.slice A n c] w (RetT w) := by
  have HP := hide (drawIsTrack_any A n c xs w hr hn)
  clear hr
  go_enter Try.func50, Try.ntmps50
  go_wp2_with fail
  refine (unhide HP).mono ?_
  rintro e w1 ⟨A', n', c', ts, rfl, hO, h2, hb⟩
  go_wp2_with fail
  go_ret
  exact ⟨A', n', c', ts, rfl, hO, h2, hb⟩
theorem drawWorstDrift_any (A : Option Addr) (n c : Nat) (xs : List Int) (w : World) (hr : RB w w.heap.size A n xs) (hn : n ≤ 65536) :
    Calls Try.prog 56 #[.slice A n c] w (RetT w) := by
  have HP := hide (drawIsTrack_any A n c xs w hr hn)
  clear hr
  go_enter Try.func56, Try.ntmps56
  go_wp2_with fail
  refine (unhide HP).mono ?_
  rintro e w1 ⟨A', n', c', ts, rfl, hO, h2, hb⟩
  go_wp2_with fail
  go_ret
  exact ⟨A', n', c', ts, rfl, hO, h2, hb⟩

theorem drawStepAt_any (A : Option Addr) (n c : Nat) (xs : List Int) (w : World) (hr : RB w w.heap.size A n xs) (hn : n ≤ 65536) :
    Calls Try.prog 51 #[.slice A n c] w (RetTI w) := by
  have HC := hide (Cur.new c hr)
  clear hr
  go_enter Try.func51, Try.ntmps51
  go_wp2_with fail
  refine (track_any w.heap.size n c 0 A xs _ (unhide HC) (by omega) (by omega)).mono ?_
  rintro e w1 ⟨A', n', c', ts, rfl, hO, ⟨h1, h2⟩, hC, hg⟩
  have HB := hide (below_cur ((Below.refl _ w).alloc (Nat.le_refl _) _) hg (Nat.le_refl _))
  have HO := hide (OwnP.less hO (lo' := w.heap.size + 1) (by simp))
  have HC1 := hide hC
  have hgw : w.heap.size ≠ w1.heap.size := (new_ne_cur hC).symm
  clear hO hC hg HC
  go_wp2_with fail
  refine (pick_any w.heap.size n c _ A xs 24 _ ((unhide HC1).alloc _) (by omega) (by omega) (by omega) (by omega)).mono ?_
  rintro e w2 ⟨y, rfl, ⟨y0, y1⟩, hC, hg⟩
  have HL2 := hide (Whl.gr (Whl.here w1 3 (cI [0, 1, 2, 1000000, -1, 1000001]).toArray) hg hgw)
  have HG2 := hide (grownBy_trans (grown_alloc (World.grownBy.refl w1 _) _) hg)
  have HC2 := hide hC
  obtain ⟨z, hh, z1, z2, z3, z4, z5, z6⟩ := quo11 4 6 (by decide) (by decide) rfl y0 y1
  have z8 : (hh : Int) ≤ 6 := z4
  have z9 : y / 11 = z := by rw [← z1, Int.tdiv_eq_ediv_of_nonneg y0]
  have z10 : 4 + z = (hh : Int) := by rw [← z3, IntWalk.i64_in _ (by omega)]
  clear hC hg HC1 y0 y1 z2 z3 z4
  go_wp2_with fail
  refine (among_some w.heap.size n c _ w1.heap.size A xs w2 [0, 1, 2, 1000000, -1, 1000001] hh 6 (unhide HL2) hgw.symm z6 z5 (by simp) (unhide HC2) (by omega) (by omega)).mono ?_
  rintro e w3 ⟨x, rfl, _, hC, hg⟩
  have hg3 := grownBy_trans (unhide HG2) hg
  have HB2 := hide (below_cur (unhide HB) hg3 (Nat.le_refl _))
  have HO2 := hide ((unhide HO).gr hg3 (by omega))
  clear hC hg hg3
  go_wp2_with fail
  go_ret2
  exact ⟨A', n', c', ts, x, rfl, OwnP.less (unhide HO2) (by omega), h2, unhide HB2⟩

theorem drawDropMarks_any (A : Option Addr) (n c : Nat) (xs : List Int) (w : World) (hr : RB w w.heap.size A n xs) (hn : n ≤ 65536) :
    Calls Try.prog 53 #[.slice A n c] w (RetTI w) := by
  have HC := hide (Cur.new c hr)
  clear hr
  go_enter Try.func53, Try.ntmps53
  go_wp2_with fail
  refine (track_any w.heap.size n c 0 A xs _ (unhide HC) (by omega) (by omega)).mono ?_
  rintro e w1 ⟨A', n', c', ts, rfl, hO, ⟨h1, h2⟩, hC, hg⟩
  have HB := hide (below_cur ((Below.refl _ w).alloc (Nat.le_refl _) _) hg (Nat.le_refl _))
  have HO := hide (OwnP.less hO (lo' := w.heap.size + 1) (by simp))
  have HC1 := hide hC
  have hgw : w.heap.size ≠ w1.heap.size := (new_ne_cur hC).symm
  clear hO hC hg HC
  go_wp2_with fail
  refine (pick_any w.heap.size n c _ A xs 24 _ ((unhide HC1).alloc _) (by omega) (by omega) (by omega) (by omega)).mono ?_
  rintro e w2 ⟨y, rfl, ⟨y0, y1⟩, hC, hg⟩
  have HL2 := hide (Whl.gr (Whl.here w1 3 (cI [0, 1, 3, 1000, -1, 1001]).toArray) hg hgw)
  have HG2 := hide (grownBy_trans (grown_alloc (World.grownBy.refl w1 _) _) hg)
  have HC2 := hide hC
  obtain ⟨z, hh, z1, z2, z3, z4, z5, z6⟩ := quo11 4 6 (by decide) (by decide) rfl y0 y1
  have z8 : (hh : Int) ≤ 6 := z4
  have z9 : y / 11 = z := by rw [← z1, Int.tdiv_eq_ediv_of_nonneg y0]
  have z10 : 4 + z = (hh : Int) := by rw [← z3, IntWalk.i64_in _ (by omega)]
  clear hC hg HC1 y0 y1 z2 z3 z4
  go_wp2_with fail
  refine (among_some w.heap.size n c _ w1.heap.size A xs w2 [0, 1, 3, 1000, -1, 1001] hh 6 (unhide HL2) hgw.symm z6 z5 (by simp) (unhide HC2) (by omega) (by omega)).mono ?_
  rintro e w3 ⟨x, rfl, _, hC, hg⟩
  have hg3 := grownBy_trans (unhide HG2) hg
  have HB2 := hide (below_cur (unhide HB) hg3 (Nat.le_refl _))
  have HO2 := hide ((unhide HO).gr hg3 (by omega))
  clear hC hg hg3
  go_wp2_with fail
  go_ret2
  exact ⟨A', n', c', ts, x, rfl, OwnP.less (unhide HO2) (by omega), h2, unhide HB2⟩

theorem rInts_any (A B : Option Addr) (n m c d L M : Nat) (xs ys : List Int) (w : World) (hx : RI w L A n xs) (hy : RI w M B m ys) (hn : n ≤ 9223372036854775807) (hm : m ≤ 9223372036854775807) :
    Calls Try.prog 52 #[.slice A n c, .slice B m d] w fun e w' => e = .returned (.bool (xs == ys)) ∧ Below w.heap.size w w' := by
  have hlx := hx.len
  have hly := hy.len
  by_cases hnm : n = m
  · subst hnm
    have HX := hide hx; have HY := hide hy; have HLX := hide hlx; have HLY := hide hly; clear hx hy hlx hly
    go_enter Try.func52, Try.ntmps52
    go_wp2
    go_loopw [5] (fun i wr => ∃ k : Nat, k ≤ n ∧ i = .int .i64 k ∧ Hid (xs.take k = ys.take k) ∧ Hid (∃ a, wr = w.drewN a)) (fun i _ => n - (intOf i).toNat)
    case atStart => exact ⟨0, Nat.zero_le _, rfl, rfl, 0, rfl⟩
    case round =>
      obtain ⟨k, hk, rfl, hE, a, rfl⟩ := hrel
      by_cases hlt : k < n
      · obtain ⟨ad, x, rfl, _, hx, hc⟩ := (unhide HX).get hlt
        obtain ⟨ae, y, rfl, _, hy, hd⟩ := (unhide HY).get hlt
        by_cases hv : x = y
        · subst hv
          have ht : (x != x) = false := by simp
          have HE2 : Hid (xs.take (k + 1) = ys.take (k + 1)) := by
            unfold Hid
            rw [List.take_add_one, List.take_add_one, unhide hE, unhide hx, unhide hy]
          clear hE hx hy
          go_wp2
          go_quiet (fail)
          go_wp2
          go_roundw
          case rel => exact ⟨k + 1, by omega, by go_num, HE2, _, rfl⟩
          case measure => simp [intOf]; omega
        · have ht : (x != y) = true := by simpa using hv
          have HV : Hid (xs ≠ ys) := by
            intro e
            subst e
            have := (unhide hx).symm.trans (unhide hy)
            exact hv (by simpa using this)
          clear hx hy hE hv
          go_wp2
          go_quiet (fail)
          go_wp2
          go_ret
          exact ⟨by simpa using unhide HV, below_drewN (below_drewN (Below.refl _ _) _) _⟩
      · have e : k = n := by omega
        subst e
        have HV : Hid (xs = ys) := by
          have := unhide hE
          rwa [List.take_of_length_le (by have := unhide HLX; omega), List.take_of_length_le (by have := unhide HLY; omega)] at this
        go_wp2
        go_ret
        exact ⟨by simpa using unhide HV, below_drewN (Below.refl _ _) _⟩
  · have HV : Hid (xs ≠ ys) := by
      intro e
      subst e
      omega
    have ht : ((n : Int) != (m : Int)) = true := by simp; omega
    clear hx hy hlx hly
    go_enter Try.func52, Try.ntmps52
    go_wp2
    go_ret
    exact ⟨by simpa using unhide HV, Below.refl _ _⟩
end Go.Proofs.Ytmpgafanlgnpeaa
