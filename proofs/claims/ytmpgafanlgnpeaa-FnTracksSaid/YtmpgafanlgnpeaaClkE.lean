/- Chapter 5, the walks: the least and the greatest offset: the program's and the reference's. (By gen_clkE.py.) -/
import Derived.Test.YtmpgafanlgnpeaaProg
import Derived.Test.YtmpgafanlgnpeaaClkA
namespace Go.Proofs.Ytmpgafanlgnpeaa
open Go.RowKit

def RetNNB (w : World) (r q : Int) (b : Bool) (e : Ending) (w' : World) : Prop := e = .returned (.tuple #[.int .i64 r, .int .i64 q, .bool b]) ∧ Below w.heap.size w w'
/-- the order of two numbers, as cmp.Compare says it -/
def cmpI (a b : Int) : Int := if a < b then -1 else if b < a then 1 else 0
theorem isNaN_any (a : Int) (w : World) : Calls Try.prog 94 #[.int .i64 a] w fun e w' => e = .returned (.bool false) ∧ w = w' := by
  have h : (a != a) = false := by simp
  go_enter Try.func94, Try.ntmps94
  go_wp2
  go_ret
  exact ⟨rfl, rfl⟩
theorem Compare_any (a b : Int) (w : World) : Calls Try.prog 79 #[.int .i64 a, .int .i64 b] w fun e w' => e = .returned (.int .i64 (cmpI a b)) ∧ w = w' := by
  rcases h1 : decide (a < b) with _ | _
  · rcases h2 : decide (b < a) with _ | _
    · have e : Hid (cmpI a b = 0) := by unfold Hid cmpI; rw [if_neg (of_decide_eq_false h1), if_neg (of_decide_eq_false h2)]
      go_enter Try.func79, Try.ntmps79
      go_wp2_with (go_at_call 94; refine (isNaN_any _ _).mono ?_; rintro e w' ⟨rfl, rfl⟩)
      go_ret
      exact ⟨ret_int (unhide e).symm, rfl⟩
    · have e : Hid (cmpI a b = 1) := by unfold Hid cmpI; rw [if_neg (of_decide_eq_false h1), if_pos (of_decide_eq_true h2)]
      go_enter Try.func79, Try.ntmps79
      go_wp2_with (go_at_call 94; refine (isNaN_any _ _).mono ?_; rintro e w' ⟨rfl, rfl⟩)
      go_ret
      exact ⟨ret_int (unhide e).symm, rfl⟩
  · have e : Hid (cmpI a b = -1) := by unfold Hid cmpI; rw [if_pos (of_decide_eq_true h1)]
    go_enter Try.func79, Try.ntmps79
    go_wp2_with (go_at_call 94; refine (isNaN_any _ _).mono ?_; rintro e w' ⟨rfl, rfl⟩)
    go_ret
    exact ⟨ret_int (unhide e).symm, rfl⟩

theorem spanCmp_any (x y x' y' : Int) (w : World) (h0 : 0 ≤ x ∧ x ≤ 1000000) (h1 : 0 ≤ y ∧ y ≤ 1000000) (h2 : 0 ≤ x' ∧ x' ≤ 1000000) (h3 : 0 ≤ y' ∧ y' ≤ 1000000) :
    Calls Try.prog 78 #[.agg #[.int .i64 x, .int .i64 y], .agg #[.int .i64 x', .int .i64 y']] w fun e w' => e = .returned (.int .i64 (cmpI (y - x) (y' - x'))) ∧ Below w.heap.size w w' := by
  have HC := hide (fun W => Compare_any (y - x) (y' - x') W)
  generalize cmpI (y - x) (y' - x') = r at *
  go_enter Try.func78, Try.ntmps78
  go_wp2_with fail
  refine (unhide HC _).mono ?_
  rintro e w1 ⟨rfl, rfl⟩
  go_wp2_with fail
  go_ret
  exact ⟨rfl, (by repeat (first | exact Below.refl _ _ | refine below_drewN ?_ _ | refine Below.drew ?_ | refine Below.setCell ?_ (by simp <;> omega) _ | refine Below.alloc ?_ (by simp <;> omega) _))⟩

/-- two cells of a block are written -/
theorem set2_facts {w : World} {g : Nat} {x y x' y' : Value} (c0 : w.cell? ⟨g, 0, none⟩ = some x) (c1 : w.cell? ⟨g, 1, none⟩ = some y) :
    ((w.setCell ⟨g, 0, none⟩ x').setCell ⟨g, 1, none⟩ y').heap.size = w.heap.size ∧ ((w.setCell ⟨g, 0, none⟩ x').setCell ⟨g, 1, none⟩ y').cell? ⟨g, 0, none⟩ = some x' ∧ ((w.setCell ⟨g, 0, none⟩ x').setCell ⟨g, 1, none⟩ y').cell? ⟨g, 1, none⟩ = some y' ∧
    (∀ a, ((w.setCell ⟨g, 0, none⟩ x').setCell ⟨g, 1, none⟩ y').frozen? a = w.frozen? a) ∧ (∀ a : Addr, a.block ≠ g → ((w.setCell ⟨g, 0, none⟩ x').setCell ⟨g, 1, none⟩ y').cell? a = w.cell? a) := by
  refine ⟨by simp [World.setCell], ?_, ?_, fun a => by rw [World.frozen?_setCell, World.frozen?_setCell], fun a ha => ?_⟩
  · rw [World.cell?_setCell_other _ _ _ _ (by simp)]
    exact World.cell?_setCell_same _ _ _ c0
  · exact World.cell?_setCell_same (u := y) _ _ _ (by rw [World.cell?_setCell_other _ _ _ _ (by simp)]; exact c1)
  · rw [World.cell?_setCell_other _ _ _ _ (by intro e; exact ha (by rw [← e])), World.cell?_setCell_other _ _ _ _ (by intro e; exact ha (by rw [← e]))]

/-- the least and the greatest offset of the first k marks -/
def mnO (xs : List (Int × Int)) : Nat → Int
  | 0 => tr xs 0 - sh xs 0
  | k + 1 => min (mnO xs k) (tr xs k - sh xs k)
def mxO (xs : List (Int × Int)) : Nat → Int
  | 0 => tr xs 0 - sh xs 0
  | k + 1 => max (mxO xs k) (tr xs k - sh xs k)
theorem mnO_one {xs : List (Int × Int)} {x y : Int} (h : xs[0]? = some (x, y)) : mnO xs 1 = y - x := by simp [mnO, sh_of h, tr_of h]
theorem mxO_one {xs : List (Int × Int)} {x y : Int} (h : xs[0]? = some (x, y)) : mxO xs 1 = y - x := by simp [mxO, sh_of h, tr_of h]
theorem mnO_step {xs : List (Int × Int)} {k : Nat} {x y : Int} (h : xs[k]? = some (x, y)) : mnO xs (k + 1) = min (mnO xs k) (y - x) := by rw [mnO, sh_of h, tr_of h]
theorem mxO_step {xs : List (Int × Int)} {k : Nat} {x y : Int} (h : xs[k]? = some (x, y)) : mxO xs (k + 1) = max (mxO xs k) (y - x) := by rw [mxO, sh_of h, tr_of h]
def spanR (xs : List (Int × Int)) : Int × Int × Bool := if trkB xs = true then (mnO xs xs.length, mxO xs xs.length, true) else (0, 0, false)

/-- a mark whose offset is the least comes back -/
def RetmnO (w : World) (xs : List (Int × Int)) (n : Nat) (e : Ending) (w' : World) : Prop := ∃ x y : Int, e = .returned (.agg #[.int .i64 x, .int .i64 y]) ∧ (0 ≤ x ∧ x ≤ 1000000) ∧ (0 ≤ y ∧ y ≤ 1000000) ∧ y - x = mnO xs n ∧ Below w.heap.size w w'
set_option maxHeartbeats 2000000 in
set_option maxRecDepth 100000 in
theorem MinFunc_span (A : Option Addr) (n c : Nat) (xs : List (Int × Int)) (w : World) (hr : RP w w.heap.size A n xs) (hn : n ≤ 2097152) (h1 : 1 ≤ n) (ht : Trk xs) :
    Calls Try.prog 80 #[.slice A n c, .func (.func 78) #[] #[]] w (RetmnO w xs n) := by
  have HR := hide hr
  have HL := hide hr.len
  have HT := hide ht
  clear hr ht
  have hn1 : decide ((n : Int) < 1) = false := decide_eq_false (by omega)
  obtain ⟨ad, x0, y0, rfl, hb0, hx0, hc0, hc1⟩ := (unhide HR).get (show 0 < n by omega)
  simp only [Nat.zero_mul, addr_add_zero] at hc0 hc1
  have n1 := (unhide HT).sh0 0 (by have := unhide HL; omega)
  have n2 := (unhide HT).tr0 0 (by have := unhide HL; omega)
  rw [sh_of (unhide hx0)] at n1
  rw [tr_of (unhide hx0)] at n2
  have H1 := hide (mnO_one (unhide hx0))
  have hd0 := fun o : Obj => (World.cell?_alloc_lt w o ad hb0).trans hc0
  have hd1 := fun o : Obj => (World.cell?_alloc_lt w o ⟨ad.block, ad.off + 1, none⟩ hb0).trans hc1
  have l0 : (0 : Int) < (n : Int) := by omega
  clear hx0
  go_enter Try.func80, Try.ntmps80
  go_wp2_with fail
  go_loopw [6] (fun i wr => ∃ (k : Nat) (x y : Int), 1 ≤ k ∧ k ≤ n ∧ i = .int .i64 k ∧ w.heap.size + 1 < wr.heap.size ∧ wr.cell? ⟨w.heap.size + 1, 0, none⟩ = some (.int .i64 x) ∧ wr.cell? ⟨w.heap.size + 1, 1, none⟩ = some (.int .i64 y) ∧ wr.frozen? ⟨w.heap.size + 1, 0, none⟩ = false ∧ wr.frozen? ⟨w.heap.size + 1, 1, none⟩ = false ∧ wr.cell? ⟨w.heap.size, 0, none⟩ = some (.int .i64 0) ∧ wr.cell? ⟨w.heap.size, 1, none⟩ = some (.int .i64 0) ∧ wr.frozen? ⟨w.heap.size, 0, none⟩ = false ∧ wr.frozen? ⟨w.heap.size, 1, none⟩ = false ∧ Hid ((0 ≤ x ∧ x ≤ 1000000) ∧ (0 ≤ y ∧ y ≤ 1000000) ∧ y - x = mnO xs k) ∧ Hid (Below w.heap.size w wr)) (fun i _ => n - (intOf i).toNat)
  case atStart => exact ⟨1, x0, y0, by omega, by omega, rfl, by simp <;> omega, by simp, by simp, by simp, by simp, by simp, by simp, by simp, by simp, ⟨n1, n2, (unhide H1).symm⟩, (by repeat (first | exact Below.refl _ _ | refine below_drewN ?_ _ | refine Below.drew ?_ | refine Below.setCell ?_ (by simp <;> omega) _ | refine Below.alloc ?_ (by simp <;> omega) _))⟩
  case round =>
    obtain ⟨k, x, y, hk1, hk, rfl, hsz, e0, e1, f0, f1, z0, z1, g0, g1, hV, hB⟩ := hrel
    by_cases hlt : k < n
    · obtain ⟨ad', x', y', had, hbx, hx, q0, q1⟩ := ((unhide HR).below (unhide hB)).get hlt
      obtain rfl := Option.some.inj had
      have n3 := (unhide HT).sh0 k (by have := unhide HL; omega)
      have n4 := (unhide HT).tr0 k (by have := unhide HL; omega)
      rw [sh_of (unhide hx)] at n3
      rw [tr_of (unhide hx)] at n4
      have HS := hide (mnO_step (unhide hx))
      have HC := hide (fun W => spanCmp_any x' y' x y W n3 n4 (unhide hV).1 (unhide hV).2.1)
      have p0 : ∀ s : Abv wr, s.w.cell? (ad.add (k * 2)) = some (.int .i64 x') := Abv.cell (by rw [block_of_add]; exact Nat.lt_of_lt_of_le hbx (unhide hB).size) q0
      have p1 : ∀ s : Abv wr, s.w.cell? ⟨(ad.add (k * 2)).block, (ad.add (k * 2)).off + 1, none⟩ = some (.int .i64 y') := Abv.cell (p := ⟨(ad.add (k * 2)).block, (ad.add (k * 2)).off + 1, none⟩) (by show (ad.add (k * 2)).block < _; rw [block_of_add]; exact Nat.lt_of_lt_of_le hbx (unhide hB).size) q1
      have p2 : ∀ s : Abv wr, s.w.cell? ⟨w.heap.size + 1, 0, none⟩ = some (.int .i64 x) := Abv.cell hsz e0
      have p3 : ∀ s : Abv wr, s.w.cell? ⟨w.heap.size + 1, 1, none⟩ = some (.int .i64 y) := Abv.cell hsz e1
      have K : Hid (∀ s : Abv wr, w.heap.size + 1 < s.w.heap.size ∧ s.w.frozen? ⟨w.heap.size + 1, 0, none⟩ = false ∧ s.w.frozen? ⟨w.heap.size + 1, 1, none⟩ = false ∧ s.w.cell? ⟨w.heap.size, 0, none⟩ = some (.int .i64 0) ∧ s.w.cell? ⟨w.heap.size, 1, none⟩ = some (.int .i64 0) ∧ s.w.frozen? ⟨w.heap.size, 0, none⟩ = false ∧ s.w.frozen? ⟨w.heap.size, 1, none⟩ = false) := fun s => ⟨Nat.lt_of_lt_of_le hsz s.h.size, (s.h.frozen (p := ⟨w.heap.size + 1, 0, none⟩) hsz).trans f0, (s.h.frozen (p := ⟨w.heap.size + 1, 1, none⟩) hsz).trans f1, (s.h.cell (p := ⟨w.heap.size, 0, none⟩) (by show w.heap.size < _; omega)).trans z0, (s.h.cell (p := ⟨w.heap.size, 1, none⟩) (by show w.heap.size < _; omega)).trans z1, (s.h.frozen (p := ⟨w.heap.size, 0, none⟩) (by show w.heap.size < _; omega)).trans g0, (s.h.frozen (p := ⟨w.heap.size, 1, none⟩) (by show w.heap.size < _; omega)).trans g1⟩
      have l1 : (k : Int) < (n : Int) := by omega
      have l2 : (0 : Int) ≤ (k : Int) := by omega
      clear hx had
      rcases hd : decide (y' - x' < y - x) with _ | _
      · have HX : Hid (decide (cmpI (y' - x') (y - x) < 0) = false) := by
          have h9 := of_decide_eq_false hd
          unfold Hid cmpI
          exact decide_eq_false (by split <;> (try split) <;> omega)
        have HV2 : Hid ((0 ≤ x ∧ x ≤ 1000000) ∧ (0 ≤ y ∧ y ≤ 1000000) ∧ y - x = mnO xs (k + 1)) := ⟨(unhide hV).1, (unhide hV).2.1, by rw [unhide HS, ← (unhide hV).2.2]; have h9 := of_decide_eq_false hd; omega⟩
        generalize cmpI (y' - x') (y - x) = r at HC HX
        have hX := unhide HX
        clear HX hV HS
        go_wp2_with fail
        refine wp_region_abv wr (by kernel_rfl) (by kernel_rfl) (Below.refl _ _) ?_
        repeat (go_big_quiet_step ((first | (go_at_call 78; exact Calls.abv (unhide HC _)))))
        refine wpQuiet_nil ?_
        intro _ hw'
        obtain ⟨s, hw''⟩ := hw'
        subst hw''
        obtain ⟨k0, k1, k2, k3, k4, k5, k6⟩ := unhide K s
        go_wp2_with fail
        go_roundw
        case rel => exact ⟨k + 1, x, y, by omega, by omega, by go_num, k0, p2 s, p3 s, k1, k2, k3, k4, k5, k6, HV2, below_next (unhide hB) s.h⟩
        case measure => simp [intOf]; omega
      · have HX : Hid (decide (cmpI (y' - x') (y - x) < 0) = true) := by
          have h9 := of_decide_eq_true hd
          unfold Hid cmpI
          exact decide_eq_true (by split <;> (try split) <;> omega)
        have HV2 : Hid ((0 ≤ x' ∧ x' ≤ 1000000) ∧ (0 ≤ y' ∧ y' ≤ 1000000) ∧ y' - x' = mnO xs (k + 1)) := ⟨n3, n4, by rw [unhide HS, ← (unhide hV).2.2]; have h9 := of_decide_eq_true hd; omega⟩
        generalize cmpI (y' - x') (y - x) = r at HC HX
        have hX := unhide HX
        clear HX hV HS
        go_wp2_with fail
        refine wp_region_abv wr (by kernel_rfl) (by kernel_rfl) (Below.refl _ _) ?_
        repeat (go_big_quiet_step ((first | (go_at_call 78; exact Calls.abv (unhide HC _)))))
        refine wpQuiet_nil ?_
        intro _ hw'
        obtain ⟨s, hw''⟩ := hw'
        subst hw''
        obtain ⟨k0, k1, k2, k3, k4, k5, k6⟩ := unhide K s
        go_wp2_with fail
        go_roundw
        case rel =>
          obtain ⟨m0, m1, m2, m3, m4⟩ := set2_facts (x' := .int .i64 x') (y' := .int .i64 y') (p2 s) (p3 s)
          exact ⟨k + 1, x', y', by omega, by omega, by go_num, by rw [m0]; exact k0, m1, m2, by rw [m3]; exact k1, by rw [m3]; exact k2, by rw [m4 _ (by simp)]; exact k3, by rw [m4 _ (by simp)]; exact k4, by rw [m3]; exact k5, by rw [m3]; exact k6, HV2, ((below_next (unhide hB) s.h).setCell (p := ⟨w.heap.size + 1, 0, none⟩) (Nat.le_succ _) _).setCell (p := ⟨w.heap.size + 1, 1, none⟩) (Nat.le_succ _) _⟩
        case measure => simp [intOf]; omega
    · obtain rfl : k = n := by omega
      go_wp2_with fail
      refine bodyPost_ret (v := .agg #[.int .i64 x, .int .i64 y]) (by simp [results, Try.results80, go_sem, *]) rfl ⟨x, y, rfl, (unhide hV).1, (unhide hV).2.1, (unhide hV).2.2, ?_⟩
      exact ((unhide hB).setCell (p := ⟨w.heap.size, 0, none⟩) (Nat.le_refl _) _).setCell (p := ⟨w.heap.size, 1, none⟩) (Nat.le_refl _) _

/-- a mark whose offset is the greatest comes back -/
def RetmxO (w : World) (xs : List (Int × Int)) (n : Nat) (e : Ending) (w' : World) : Prop := ∃ x y : Int, e = .returned (.agg #[.int .i64 x, .int .i64 y]) ∧ (0 ≤ x ∧ x ≤ 1000000) ∧ (0 ≤ y ∧ y ≤ 1000000) ∧ y - x = mxO xs n ∧ Below w.heap.size w w'
set_option maxHeartbeats 2000000 in
set_option maxRecDepth 100000 in
theorem MaxFunc_span (A : Option Addr) (n c : Nat) (xs : List (Int × Int)) (w : World) (hr : RP w w.heap.size A n xs) (hn : n ≤ 2097152) (h1 : 1 ≤ n) (ht : Trk xs) :
    Calls Try.prog 81 #[.slice A n c, .func (.func 78) #[] #[]] w (RetmxO w xs n) := by
  have HR := hide hr
  have HL := hide hr.len
  have HT := hide ht
  clear hr ht
  have hn1 : decide ((n : Int) < 1) = false := decide_eq_false (by omega)
  obtain ⟨ad, x0, y0, rfl, hb0, hx0, hc0, hc1⟩ := (unhide HR).get (show 0 < n by omega)
  simp only [Nat.zero_mul, addr_add_zero] at hc0 hc1
  have n1 := (unhide HT).sh0 0 (by have := unhide HL; omega)
  have n2 := (unhide HT).tr0 0 (by have := unhide HL; omega)
  rw [sh_of (unhide hx0)] at n1
  rw [tr_of (unhide hx0)] at n2
  have H1 := hide (mxO_one (unhide hx0))
  have hd0 := fun o : Obj => (World.cell?_alloc_lt w o ad hb0).trans hc0
  have hd1 := fun o : Obj => (World.cell?_alloc_lt w o ⟨ad.block, ad.off + 1, none⟩ hb0).trans hc1
  have l0 : (0 : Int) < (n : Int) := by omega
  clear hx0
  go_enter Try.func81, Try.ntmps81
  go_wp2_with fail
  go_loopw [6] (fun i wr => ∃ (k : Nat) (x y : Int), 1 ≤ k ∧ k ≤ n ∧ i = .int .i64 k ∧ w.heap.size + 1 < wr.heap.size ∧ wr.cell? ⟨w.heap.size + 1, 0, none⟩ = some (.int .i64 x) ∧ wr.cell? ⟨w.heap.size + 1, 1, none⟩ = some (.int .i64 y) ∧ wr.frozen? ⟨w.heap.size + 1, 0, none⟩ = false ∧ wr.frozen? ⟨w.heap.size + 1, 1, none⟩ = false ∧ wr.cell? ⟨w.heap.size, 0, none⟩ = some (.int .i64 0) ∧ wr.cell? ⟨w.heap.size, 1, none⟩ = some (.int .i64 0) ∧ wr.frozen? ⟨w.heap.size, 0, none⟩ = false ∧ wr.frozen? ⟨w.heap.size, 1, none⟩ = false ∧ Hid ((0 ≤ x ∧ x ≤ 1000000) ∧ (0 ≤ y ∧ y ≤ 1000000) ∧ y - x = mxO xs k) ∧ Hid (Below w.heap.size w wr)) (fun i _ => n - (intOf i).toNat)
  case atStart => exact ⟨1, x0, y0, by omega, by omega, rfl, by simp <;> omega, by simp, by simp, by simp, by simp, by simp, by simp, by simp, by simp, ⟨n1, n2, (unhide H1).symm⟩, (by repeat (first | exact Below.refl _ _ | refine below_drewN ?_ _ | refine Below.drew ?_ | refine Below.setCell ?_ (by simp <;> omega) _ | refine Below.alloc ?_ (by simp <;> omega) _))⟩
  case round =>
    obtain ⟨k, x, y, hk1, hk, rfl, hsz, e0, e1, f0, f1, z0, z1, g0, g1, hV, hB⟩ := hrel
    by_cases hlt : k < n
    · obtain ⟨ad', x', y', had, hbx, hx, q0, q1⟩ := ((unhide HR).below (unhide hB)).get hlt
      obtain rfl := Option.some.inj had
      have n3 := (unhide HT).sh0 k (by have := unhide HL; omega)
      have n4 := (unhide HT).tr0 k (by have := unhide HL; omega)
      rw [sh_of (unhide hx)] at n3
      rw [tr_of (unhide hx)] at n4
      have HS := hide (mxO_step (unhide hx))
      have HC := hide (fun W => spanCmp_any x' y' x y W n3 n4 (unhide hV).1 (unhide hV).2.1)
      have p0 : ∀ s : Abv wr, s.w.cell? (ad.add (k * 2)) = some (.int .i64 x') := Abv.cell (by rw [block_of_add]; exact Nat.lt_of_lt_of_le hbx (unhide hB).size) q0
      have p1 : ∀ s : Abv wr, s.w.cell? ⟨(ad.add (k * 2)).block, (ad.add (k * 2)).off + 1, none⟩ = some (.int .i64 y') := Abv.cell (p := ⟨(ad.add (k * 2)).block, (ad.add (k * 2)).off + 1, none⟩) (by show (ad.add (k * 2)).block < _; rw [block_of_add]; exact Nat.lt_of_lt_of_le hbx (unhide hB).size) q1
      have p2 : ∀ s : Abv wr, s.w.cell? ⟨w.heap.size + 1, 0, none⟩ = some (.int .i64 x) := Abv.cell hsz e0
      have p3 : ∀ s : Abv wr, s.w.cell? ⟨w.heap.size + 1, 1, none⟩ = some (.int .i64 y) := Abv.cell hsz e1
      have K : Hid (∀ s : Abv wr, w.heap.size + 1 < s.w.heap.size ∧ s.w.frozen? ⟨w.heap.size + 1, 0, none⟩ = false ∧ s.w.frozen? ⟨w.heap.size + 1, 1, none⟩ = false ∧ s.w.cell? ⟨w.heap.size, 0, none⟩ = some (.int .i64 0) ∧ s.w.cell? ⟨w.heap.size, 1, none⟩ = some (.int .i64 0) ∧ s.w.frozen? ⟨w.heap.size, 0, none⟩ = false ∧ s.w.frozen? ⟨w.heap.size, 1, none⟩ = false) := fun s => ⟨Nat.lt_of_lt_of_le hsz s.h.size, (s.h.frozen (p := ⟨w.heap.size + 1, 0, none⟩) hsz).trans f0, (s.h.frozen (p := ⟨w.heap.size + 1, 1, none⟩) hsz).trans f1, (s.h.cell (p := ⟨w.heap.size, 0, none⟩) (by show w.heap.size < _; omega)).trans z0, (s.h.cell (p := ⟨w.heap.size, 1, none⟩) (by show w.heap.size < _; omega)).trans z1, (s.h.frozen (p := ⟨w.heap.size, 0, none⟩) (by show w.heap.size < _; omega)).trans g0, (s.h.frozen (p := ⟨w.heap.size, 1, none⟩) (by show w.heap.size < _; omega)).trans g1⟩
      have l1 : (k : Int) < (n : Int) := by omega
      have l2 : (0 : Int) ≤ (k : Int) := by omega
      clear hx had
      rcases hd : decide (y - x < y' - x') with _ | _
      · have HX : Hid (decide (0 < cmpI (y' - x') (y - x)) = false) := by
          have h9 := of_decide_eq_false hd
          unfold Hid cmpI
          exact decide_eq_false (by split <;> (try split) <;> omega)
        have HV2 : Hid ((0 ≤ x ∧ x ≤ 1000000) ∧ (0 ≤ y ∧ y ≤ 1000000) ∧ y - x = mxO xs (k + 1)) := ⟨(unhide hV).1, (unhide hV).2.1, by rw [unhide HS, ← (unhide hV).2.2]; have h9 := of_decide_eq_false hd; omega⟩
        generalize cmpI (y' - x') (y - x) = r at HC HX
        have hX := unhide HX
        clear HX hV HS
        go_wp2_with fail
        refine wp_region_abv wr (by kernel_rfl) (by kernel_rfl) (Below.refl _ _) ?_
        repeat (go_big_quiet_step ((first | (go_at_call 78; exact Calls.abv (unhide HC _)))))
        refine wpQuiet_nil ?_
        intro _ hw'
        obtain ⟨s, hw''⟩ := hw'
        subst hw''
        obtain ⟨k0, k1, k2, k3, k4, k5, k6⟩ := unhide K s
        go_wp2_with fail
        go_roundw
        case rel => exact ⟨k + 1, x, y, by omega, by omega, by go_num, k0, p2 s, p3 s, k1, k2, k3, k4, k5, k6, HV2, below_next (unhide hB) s.h⟩
        case measure => simp [intOf]; omega
      · have HX : Hid (decide (0 < cmpI (y' - x') (y - x)) = true) := by
          have h9 := of_decide_eq_true hd
          unfold Hid cmpI
          exact decide_eq_true (by split <;> (try split) <;> omega)
        have HV2 : Hid ((0 ≤ x' ∧ x' ≤ 1000000) ∧ (0 ≤ y' ∧ y' ≤ 1000000) ∧ y' - x' = mxO xs (k + 1)) := ⟨n3, n4, by rw [unhide HS, ← (unhide hV).2.2]; have h9 := of_decide_eq_true hd; omega⟩
        generalize cmpI (y' - x') (y - x) = r at HC HX
        have hX := unhide HX
        clear HX hV HS
        go_wp2_with fail
        refine wp_region_abv wr (by kernel_rfl) (by kernel_rfl) (Below.refl _ _) ?_
        repeat (go_big_quiet_step ((first | (go_at_call 78; exact Calls.abv (unhide HC _)))))
        refine wpQuiet_nil ?_
        intro _ hw'
        obtain ⟨s, hw''⟩ := hw'
        subst hw''
        obtain ⟨k0, k1, k2, k3, k4, k5, k6⟩ := unhide K s
        go_wp2_with fail
        go_roundw
        case rel =>
          obtain ⟨m0, m1, m2, m3, m4⟩ := set2_facts (x' := .int .i64 x') (y' := .int .i64 y') (p2 s) (p3 s)
          exact ⟨k + 1, x', y', by omega, by omega, by go_num, by rw [m0]; exact k0, m1, m2, by rw [m3]; exact k1, by rw [m3]; exact k2, by rw [m4 _ (by simp)]; exact k3, by rw [m4 _ (by simp)]; exact k4, by rw [m3]; exact k5, by rw [m3]; exact k6, HV2, ((below_next (unhide hB) s.h).setCell (p := ⟨w.heap.size + 1, 0, none⟩) (Nat.le_succ _) _).setCell (p := ⟨w.heap.size + 1, 1, none⟩) (Nat.le_succ _) _⟩
        case measure => simp [intOf]; omega
    · obtain rfl : k = n := by omega
      go_wp2_with fail
      refine bodyPost_ret (v := .agg #[.int .i64 x, .int .i64 y]) (by simp [results, Try.results81, go_sem, *]) rfl ⟨x, y, rfl, (unhide hV).1, (unhide hV).2.1, (unhide hV).2.2, ?_⟩
      exact ((unhide hB).setCell (p := ⟨w.heap.size, 0, none⟩) (Nat.le_refl _) _).setCell (p := ⟨w.heap.size, 1, none⟩) (Nat.le_refl _) _

theorem mnO_bound {xs : List (Int × Int)} (ht : Trk xs) (k : Nat) (hk : k ≤ xs.length) (h0 : 0 < xs.length) : -1000000 ≤ mnO xs k ∧ mnO xs k ≤ 1000000 := by
  induction k with
  | zero => have a := ht.sh0 0 h0; have b := ht.tr0 0 h0; unfold mnO; omega
  | succ k ih => have a := ht.sh0 k (by omega); have b := ht.tr0 k (by omega); have := ih (by omega); unfold mnO; omega
theorem mxO_bound {xs : List (Int × Int)} (ht : Trk xs) (k : Nat) (hk : k ≤ xs.length) (h0 : 0 < xs.length) : -1000000 ≤ mxO xs k ∧ mxO xs k ≤ 1000000 := by
  induction k with
  | zero => have a := ht.sh0 0 h0; have b := ht.tr0 0 h0; unfold mxO; omega
  | succ k ih => have a := ht.sh0 k (by omega); have b := ht.tr0 k (by omega); have := ih (by omega); unfold mxO; omega

theorem quiet_add_left {P : Program} {f : FuncId} {args : Array Value} {w : World} {a n : Nat} {v : Value}
    (h : Calls P f args (w.drewN (a + n)) fun e w' => e = .returned v ∧ w.drewN (a + n) = w') :
    Calls P f args (w.drewN (a + n)) fun e w'' => e = .returned v ∧ ∃ m, w'' = w.drewN (a + m) :=
  h.mono fun _ _ ⟨he, hm⟩ => ⟨he, n, hm.symm⟩

set_option maxHeartbeats 4000000 in
set_option maxRecDepth 100000 in
theorem implSpan_any (A : Option Addr) (n c : Nat) (xs : List (Int × Int)) (w : World) (hr : RP w w.heap.size A n xs) (hn : n ≤ 2097152) :
    Calls Try.prog 39 #[.slice A n c] w (RetNNB w (spanR xs).1 (spanR xs).2.1 (spanR xs).2.2) := by
  have HG := hide (implIsTrack_any A n c xs w hr (by omega))
  have HL := hide hr.len
  have HR := hide hr
  clear hr
  rcases h1 : trkB xs with _ | _
  · have HRR : Hid (spanR xs = (0, 0, false)) := by unfold Hid spanR; rw [h1]; rfl
    go_enter Try.func39, Try.ntmps39
    go_wp2_with fail
    rw [h1] at HG
    refine (unhide HG).mono ?_
    rintro e w1 ⟨rfl, hb⟩
    have HB1 := hide hb
    clear hb
    go_wp2_with fail
    go_ret3
    exact ⟨by rw [unhide HRR]; rfl, unhide HB1⟩
  · obtain ⟨ht, l2, l10⟩ := trk_of h1
    rw [unhide HL] at l2 l10
    have HRR : Hid (spanR xs = (mnO xs n, mxO xs n, true)) := by unfold Hid spanR; rw [h1, unhide HL]; rfl
    have HT := hide ht
    clear ht
    go_enter Try.func39, Try.ntmps39
    go_wp2_with fail
    rw [h1] at HG
    refine (unhide HG).mono ?_
    rintro e w1 ⟨rfl, hb⟩
    have HB1 := hide hb
    clear hb
    go_wp2_with fail
    refine (MinFunc_span A n c xs _ (((unhide HR).below (unhide HB1)).more (unhide HB1).size) hn (by omega) (unhide HT)).mono ?_
    rintro e w2 ⟨x, y, rfl, ⟨a0, a1⟩, ⟨b0, b1⟩, hv, hb⟩
    have HV := hide hv
    have HB2 := hide (below_next (unhide HB1) hb)
    clear hv hb
    go_wp2_with fail
    refine (MaxFunc_span A n c xs _ (((unhide HR).below (unhide HB2)).more (unhide HB2).size) hn (by omega) (unhide HT)).mono ?_
    rintro e w3 ⟨x', y', rfl, ⟨a2, a3⟩, ⟨b2, b3⟩, hv, hb⟩
    have HV' := hide hv
    have HB3 := hide (below_next (unhide HB2) hb)
    clear hv hb
    have s1 : IntKind.i64.wrap (y - x) = y - x := IntWalk.i64_in _ (by omega)
    have s2 : IntKind.i64.wrap (y' - x') = y' - x' := IntWalk.i64_in _ (by omega)
    go_wp2_with fail
    go_quiet (fail)
    clear s1 s2
    go_wp2_with fail
    go_ret3
    exact ⟨by rw [unhide HRR, ← unhide HV, ← unhide HV']; rfl, below_next (unhide HB3) (by repeat (first | exact Below.refl _ _ | refine below_drewN ?_ _ | refine Below.drew ?_ | refine Below.setCell ?_ (by simp <;> omega) _ | refine Below.alloc ?_ (by simp <;> omega) _))⟩

set_option maxHeartbeats 4000000 in
set_option maxRecDepth 100000 in
theorem specSpan_any (A : Option Addr) (n c : Nat) (xs : List (Int × Int)) (w : World) (hr : RP w w.heap.size A n xs) (hn : n ≤ 2097152) :
    Calls Try.prog 38 #[.slice A n c] w (RetNNB w (spanR xs).1 (spanR xs).2.1 (spanR xs).2.2) := by
  have HG := hide (l5Good_any A n c xs w hr (by omega))
  have HL := hide hr.len
  have HR := hide hr
  clear hr
  rcases h1 : trkB xs with _ | _
  · have HRR : Hid (spanR xs = (0, 0, false)) := by unfold Hid spanR; rw [h1]; rfl
    go_enter Try.func38, Try.ntmps38
    go_wp2_with fail
    rw [h1] at HG
    refine (unhide HG).mono ?_
    rintro e w1 ⟨rfl, hb⟩
    have HB1 := hide hb
    clear hb
    go_wp2_with fail
    go_ret3
    exact ⟨by rw [unhide HRR]; rfl, unhide HB1⟩
  · obtain ⟨ht, l2, l10⟩ := trk_of h1
    rw [unhide HL] at l2 l10
    have HRR : Hid (spanR xs = (mnO xs n, mxO xs n, true)) := by unfold Hid spanR; rw [h1, unhide HL]; rfl
    have HT := hide ht
    clear ht
    obtain ⟨ad, x0, y0, rfl, hb0, hx0, hc0, hc1⟩ := (unhide HR).get (show 0 < n by omega)
    simp only [Nat.zero_mul, addr_add_zero] at hc0 hc1
    have n1 := (unhide HT).sh0 0 (by have := unhide HL; omega)
    have n2 := (unhide HT).tr0 0 (by have := unhide HL; omega)
    rw [sh_of (unhide hx0)] at n1
    rw [tr_of (unhide hx0)] at n2
    have H1 := hide (mnO_one (unhide hx0))
    have H2 := hide (mxO_one (unhide hx0))
    clear hx0
    obtain ⟨n10, n11⟩ := n1
    obtain ⟨n20, n21⟩ := n2
    go_enter Try.func38, Try.ntmps38
    go_wp2_with fail
    rw [h1] at HG
    refine (unhide HG).mono ?_
    rintro e w1 ⟨rfl, hb⟩
    have HB1 := hide hb
    clear hb
    have q0 : w1.cell? ad = some (.int .i64 x0) := ((unhide HB1).cell hb0).trans hc0
    have q1 : w1.cell? ⟨ad.block, ad.off + 1, none⟩ = some (.int .i64 y0) := ((unhide HB1).cell (p := ⟨ad.block, ad.off + 1, none⟩) hb0).trans hc1
    have l0 : (0 : Int) < (n : Int) := by omega
    have s1 : IntKind.i64.wrap (y0 - x0) = y0 - x0 := IntWalk.i64_in _ (by omega)
    go_wp2_with fail
    go_quiet (fail)
    clear s1 q0 q1
    go_wp2_with fail
    go_loopw [5, 6, 7] (fun a b i wr => ∃ (k : Nat) (lo hi : Int), 1 ≤ k ∧ k ≤ n ∧ i = .int .i64 k ∧ a = .int .i64 lo ∧ b = .int .i64 hi ∧ Hid (lo = mnO xs k) ∧ Hid (hi = mxO xs k) ∧ Hid (Below w.heap.size w wr)) (fun _ _ i _ => n - (intOf i).toNat)
    case atStart => exact ⟨1, y0 - x0, y0 - x0, by omega, by omega, rfl, rfl, rfl, (unhide H1).symm, (unhide H2).symm, below_drewN (unhide HB1) _⟩
    case round =>
      obtain ⟨k, lo, hi, hk1, hk, rfl, rfl, rfl, hlo, hhi, hB⟩ := hrel
      by_cases hlt : k < n
      · obtain ⟨ad', x', y', had, hbx, hx, q0, q1⟩ := ((unhide HR).below (unhide hB)).get hlt
        obtain rfl := Option.some.inj had
        have n3 := (unhide HT).sh0 k (by have := unhide HL; omega)
        have n4 := (unhide HT).tr0 k (by have := unhide HL; omega)
        rw [sh_of (unhide hx)] at n3
        rw [tr_of (unhide hx)] at n4
        have HS := hide (mnO_step (unhide hx))
        have HS2 := hide (mxO_step (unhide hx))
        have HM := hide (fun W => l1Least_any lo (y' - x') W)
        have HN := hide (fun W => l1Most_any hi (y' - x') W)
        have h5 : Hid (min lo (y' - x') = mnO xs (k + 1)) := by unfold Hid; rw [unhide HS, ← unhide hlo]
        have h6 : Hid (max hi (y' - x') = mxO xs (k + 1)) := by unfold Hid; rw [unhide HS2, ← unhide hhi]
        generalize min lo (y' - x') = lo2 at HM h5
        generalize max hi (y' - x') = hi2 at HN h6
        obtain ⟨n30, n31⟩ := n3
        obtain ⟨n40, n41⟩ := n4
        have l1 : (k : Int) < (n : Int) := by omega
        have l2 : (0 : Int) ≤ (k : Int) := by omega
        have s1 : IntKind.i64.wrap (y' - x') = y' - x' := IntWalk.i64_in _ (by omega)
        clear hx had hlo hhi HS HS2
        go_wp2_with fail
        go_quiet ((first | (go_at_call 76; exact Calls.quiet_of_same ((unhide HM _).mono fun _ _ ⟨a, b⟩ => ⟨a, b.symm⟩))))
        go_wp2_with fail
        go_quiet ((first | (go_at_call 77; exact quiet_add_left ((unhide HN _).mono fun _ _ ⟨a, b⟩ => ⟨a, b⟩)) | (go_at_call 77; exact Calls.quiet_of_same ((unhide HN _).mono fun _ _ ⟨a, b⟩ => ⟨a, b.symm⟩))))
        clear s1
        go_wp2_with fail
        go_roundw
        case rel => exact ⟨k + 1, lo2, hi2, by omega, by omega, by go_num, rfl, rfl, unhide h5, unhide h6, below_drewN (unhide hB) _⟩
        case measure => simp [intOf]; omega
      · obtain rfl : k = n := by omega
        go_wp2_with fail
        go_ret3
        exact ⟨by rw [unhide HRR, ← unhide hlo, ← unhide hhi]; rfl, unhide hB⟩

end Go.Proofs.Ytmpgafanlgnpeaa
