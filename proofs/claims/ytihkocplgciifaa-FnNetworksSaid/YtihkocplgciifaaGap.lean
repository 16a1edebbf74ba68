/- Chapter 3, the walks: the quarter of the map in which there is no station: the program's and the reference's. (By gen_gap.py.) -/
import Derived.Test.YtihkocplgciifaaProg
import Derived.Test.YtihkocplgciifaaStF
import Derived.Test.YtihkocplgciifaaWhole
import Derived.Deep.DeepCutAuto
import Derived.Laws.EntriesVeiled
import Derived.Shelf.Abstract
namespace Go.Proofs.Ytihkocplgciifaa
open Go.RowKit

/-- station s is in quarter q -/
def qtB (x y : Int) (q : Nat) (s : St) : Bool :=
  if q = 0 then decide (x < s.x) && decide (y ≤ s.y) else if q = 1 then decide (s.x ≤ x) && decide (y < s.y) else if q = 2 then decide (s.x < x) && decide (s.y ≤ y) else decide (x ≤ s.x) && decide (s.y < y)
/-- the quarter of a station, -1 at the place itself -/
def qtI (x y : Int) (s : St) : Int := if (decide (x < s.x) && decide (y ≤ s.y)) = true then 0 else if (decide (s.x ≤ x) && decide (y < s.y)) = true then 1 else if (decide (s.x < x) && decide (s.y ≤ y)) = true then 2 else if (decide (x ≤ s.x) && decide (s.y < y)) = true then 3 else -1
theorem qt_same (x y : Int) (s : St) (q : Nat) (hq : q < 4) : (qtI x y s == (q : Int)) = qtB x y q s := by
  rw [Bool.eq_iff_iff, beq_iff_eq]
  rcases (show q = 0 ∨ q = 1 ∨ q = 2 ∨ q = 3 by omega) with rfl | rfl | rfl | rfl
  · unfold qtI
    show _ ↔ (decide (x < s.x) && decide (y ≤ s.y)) = true
    repeat' split
    all_goals (simp only [Bool.and_eq_true, decide_eq_true_eq] at *; omega)
  · unfold qtI
    show _ ↔ (decide (s.x ≤ x) && decide (y < s.y)) = true
    repeat' split
    all_goals (simp only [Bool.and_eq_true, decide_eq_true_eq] at *; omega)
  · unfold qtI
    show _ ↔ (decide (s.x < x) && decide (s.y ≤ y)) = true
    repeat' split
    all_goals (simp only [Bool.and_eq_true, decide_eq_true_eq] at *; omega)
  · unfold qtI
    show _ ↔ (decide (x ≤ s.x) && decide (s.y < y)) = true
    repeat' split
    all_goals (simp only [Bool.and_eq_true, decide_eq_true_eq] at *; omega)
/-- no station is in quarter q -/
def emB (xs : List St) (x y : Int) (q : Nat) : Bool := decide (xs.filter (qtB x y q) = [])
/-- the first such quarter from q on -/
def gapQ (xs : List St) (x y : Int) (q : Nat) : Int × Bool := if q < 4 then (if emB xs x y q = true then ((q : Int), true) else if emB xs x y (q + 1) = true ∧ q + 1 < 4 then (((q + 1 : Nat) : Int), true) else if emB xs x y (q + 2) = true ∧ q + 2 < 4 then (((q + 2 : Nat) : Int), true) else if emB xs x y (q + 3) = true ∧ q + 3 < 4 then (((q + 3 : Nat) : Int), true) else (0, false)) else (0, false)
theorem gapQ_hit {xs : List St} {x y : Int} {q : Nat} (h : q < 4) (h2 : emB xs x y q = true) : gapQ xs x y q = ((q : Int), true) := by
  unfold gapQ
  rw [if_pos h, if_pos h2]
theorem gapQ_next {xs : List St} {x y : Int} {q : Nat} (h : q < 4) (h2 : emB xs x y q = false) : gapQ xs x y q = gapQ xs x y (q + 1) := by
  have h3 : ¬ emB xs x y q = true := by rw [h2]; simp
  conv => lhs; unfold gapQ
  rw [if_pos h, if_neg h3]
  rcases (show q = 0 ∨ q = 1 ∨ q = 2 ∨ q = 3 by omega) with rfl | rfl | rfl | rfl <;> simp [gapQ]
theorem gapQ_end {xs : List St} {x y : Int} {q : Nat} (h : ¬ q < 4) : gapQ xs x y q = (0, false) := by unfold gapQ; rw [if_neg h]
/-- the gap, whether it may be asked and there is one -/
def gapR (xs : List St) (x y : Int) : Int × Bool := if (stsB xs && (inB x 0 999 && inB y 0 999)) = true then gapQ xs x y 0 else (0, false)
def RetNB (w : World) (r : Int) (b : Bool) (e : Ending) (w' : World) : Prop := e = .returned (.tuple #[.int .i64 r, .bool b]) ∧ Below w.heap.size w w'

/-- what is asked of a function value on stations: it says p, in every world that leaves what lay in w, and leaves what lies there -/
def PredS (g : Nat) (lb : Array Value) (p : St → Bool) (w : World) : Prop :=
  ∀ (W : World) (s : St), Below w.heap.size w W → Calls Try.prog g (#[.agg #[.int .i64 s.id, .string s.nm, .int .i64 s.x, .int .i64 s.y, .int .i64 s.gn, .int .i64 s.lw, .int .i64 s.hg, .int .i64 s.ut]] ++ lb) W fun e w' => e = .returned (.bool (p s)) ∧ Below W.heap.size W w'

set_option maxHeartbeats 1000000 in
set_option maxRecDepth 100000 in
theorem filter_pred (g : Nat) (lb : Array Value) (p : St → Bool) (eg : ∀ args w, (callFunc g args).run Try.prog w = .ok (.enter g args) w) (A : Option Addr) (n c L : Nat) (xs : List St) (w : World) (hp : PredS g lb p w) (hr : RS w L A n xs) (hL : L ≤ w.heap.size) (hn : n ≤ 2097152) :
    Calls Try.prog 90 #[.slice A n c, .func (.func g) #[] lb] w (RetS w (xs.filter p)) := by
  have HR := hide (hr.more hL)
  have HL := hide hr.len
  have HCap := hide hp
  clear hr hp
  go_enter Try.func90, Try.ntmps90
  go_wp2
  go_loopw [5, 11] (fun v i wr => ∃ (k m : Nat) (A' : Option Addr) (c' : Nat), k ≤ n ∧ m ≤ k ∧ i = .int .i64 k ∧ v = .slice A' m c' ∧ Hid (OwnS wr w.heap.size A' m c' ((xs.take k).filter p)) ∧ Hid (Below w.heap.size w wr)) (fun _ i _ => n - (intOf i).toNat)
  case atStart => exact ⟨0, 0, _, _, Nat.zero_le _, Nat.le_refl _, rfl, rfl, OwnS.empty _ (Nat.le_refl _), (Below.refl _ _).alloc (Nat.le_refl _) _⟩
  case round =>
    obtain ⟨k, m, A', c', hk, hmk, rfl, rfl, hO, hB⟩ := hrel
    by_cases hlt : k < n
    · obtain ⟨ad, s, rfl, hbx, hx, hrow⟩ := ((unhide HR).below (unhide hB)).get hlt
      obtain ⟨c0, c1, c2, c3, c4, c5, c6, c7⟩ := hrow
      have HB2 : Hid (Below w.heap.size w (wr.alloc (.cells #[.int .i64 s.id, .string s.nm, .int .i64 s.x, .int .i64 s.y, .int .i64 s.gn, .int .i64 s.lw, .int .i64 s.hg, .int .i64 s.ut] 26))) := (unhide hB).alloc (unhide hB).size _
      have HC := hide (unhide HCap _ s (unhide HB2))
      have HH := hide (Row8.here wr s)
      have HF : Hid ((xs.take (k + 1)).filter p = (xs.take k).filter p ++ if p s = true then [s] else []) := by
        unfold Hid
        rw [List.take_add_one, unhide hx, List.filter_append]
        simp only [Option.toList_some, List.filter_cons, List.filter_nil]
      have l1 : (k : Int) < (n : Int) := by omega
      have l2 : (0 : Int) ≤ (k : Int) := by omega
      clear hx
      rcases h1 : p s with _ | _
      · rw [h1] at HF HC
        rw [if_neg (by simp), List.append_nil] at HF
        go_wp2_with fail
        refine (unhide HC).mono ?_
        rintro e w1 ⟨rfl, hb⟩
        have HO1 : Hid (OwnS w1 w.heap.size A' m c' ((xs.take (k + 1)).filter p)) := by rw [unhide HF]; exact ((unhide hO).alloc _).below hb (Nat.le_refl _)
        have HB1 := hide ((unhide HB2).trans (hb.mono (unhide HB2).size))
        clear hb
        go_wp2_with fail
        go_roundw
        case rel => exact ⟨k + 1, m, A', c', by omega, by omega, by go_num, rfl, HO1, HB1⟩
        case measure => simp [intOf]; omega
      · rw [h1] at HF HC
        rw [if_pos rfl] at HF
        have hlt9 : wr.heap.size < (wr.alloc (.cells #[.int .i64 s.id, .string s.nm, .int .i64 s.x, .int .i64 s.y, .int .i64 s.gn, .int .i64 s.lw, .int .i64 s.hg, .int .i64 s.ut] 26)).heap.size := by simp
        have HO9 := hide ((unhide hO).alloc (.cells #[.int .i64 s.id, .string s.nm, .int .i64 s.x, .int .i64 s.y, .int .i64 s.gn, .int .i64 s.lw, .int .i64 s.hg, .int .i64 s.ut] 26))
        have hls9 := (unhide HB2).size
        go_wp2_with fail
        refine (unhide HC).mono ?_
        rintro e w1 ⟨rfl, hb⟩
        obtain ⟨e0, e1, e2, e3, e4, e5, e6, e7⟩ := Row8.below (unhide HH) hb hlt9
        go_wp2_with (first
          | (at_builtin; refine append_st _ rfl _ _ rfl w A' m c' _ rfl (((unhide HO9).below hb (Nat.le_refl _)).alloc _) (Below.alloc ((unhide HB2).trans (hb.mono hls9)) (Nat.le_trans hls9 hb.size) _) ⟨w1.heap.size, 0, none⟩ s rfl (Row8.here w1 s) ?_ ?_; omega; intro A2 c2 w2 hO2 hB2))
        rw [← unhide HF] at hO2
        have HO2 := hide hO2
        have HB3 := hide hB2
        clear hO2 hB2 hO hB HF
        go_wp2_with fail
        go_roundw
        case rel => exact ⟨k + 1, m + 1, A2, c2, by omega, by omega, by go_num, rfl, HO2, HB3⟩
        case measure => simp [intOf]; omega
    · obtain rfl : k = n := by omega
      go_wp2_with fail
      go_ret
      have e : xs.take k = xs := List.take_of_length_le (by rw [unhide HL]; exact Nat.le_refl _)
      rw [e] at hO
      exact ⟨A', m, c', rfl, unhide hO, unhide hB⟩
theorem gap_clo0 (p1 p2 : Addr) (x y : Int) (w : World) (h1 : p1.block < w.heap.size ∧ w.cell? p1 = some (.int .i64 x)) (h2 : p2.block < w.heap.size ∧ w.cell? p2 = some (.int .i64 y)) : PredS 97 #[.pointer (some p1), .pointer (some p2)] (qtB x y 0) w := by
  intro W s hb
  have hc1 := (hb.cell h1.1).trans h1.2
  have hc2 := (hb.cell h2.1).trans h2.2
  have hl1 := Nat.lt_of_lt_of_le h1.1 hb.size
  have hl2 := Nat.lt_of_lt_of_le h2.1 hb.size
  have hd1 := fun o : Obj => (World.cell?_alloc_lt W o p1 hl1).trans hc1
  have hd2 := fun o : Obj => (World.cell?_alloc_lt W o p2 hl2).trans hc2
  show Calls _ _ #[.agg #[.int .i64 s.id, .string s.nm, .int .i64 s.x, .int .i64 s.y, .int .i64 s.gn, .int .i64 s.lw, .int .i64 s.hg, .int .i64 s.ut], .pointer (some p1), .pointer (some p2)] W (fun e w' => e = .returned (.bool (qtB x y 0 s)) ∧ Below W.heap.size W w')
  have HQ : Hid (qtB x y 0 s = (decide (x < s.x) && decide (y ≤ s.y))) := rfl
  clear h1 h2 hb
  by_cases q1 : x < s.x <;> by_cases q2 : y ≤ s.y
  all_goals
    go_enter Try.func97, Try.ntmps97
    go_wp2
    go_ret
    exact ⟨ret_bool (by rw [unhide HQ]; simp [q1, q2]), (Below.refl _ _).alloc (Nat.le_refl _) _⟩
theorem gap_clo1 (p1 p2 : Addr) (x y : Int) (w : World) (h1 : p1.block < w.heap.size ∧ w.cell? p1 = some (.int .i64 x)) (h2 : p2.block < w.heap.size ∧ w.cell? p2 = some (.int .i64 y)) : PredS 98 #[.pointer (some p1), .pointer (some p2)] (qtB x y 1) w := by
  intro W s hb
  have hc1 := (hb.cell h1.1).trans h1.2
  have hc2 := (hb.cell h2.1).trans h2.2
  have hl1 := Nat.lt_of_lt_of_le h1.1 hb.size
  have hl2 := Nat.lt_of_lt_of_le h2.1 hb.size
  have hd1 := fun o : Obj => (World.cell?_alloc_lt W o p1 hl1).trans hc1
  have hd2 := fun o : Obj => (World.cell?_alloc_lt W o p2 hl2).trans hc2
  show Calls _ _ #[.agg #[.int .i64 s.id, .string s.nm, .int .i64 s.x, .int .i64 s.y, .int .i64 s.gn, .int .i64 s.lw, .int .i64 s.hg, .int .i64 s.ut], .pointer (some p1), .pointer (some p2)] W (fun e w' => e = .returned (.bool (qtB x y 1 s)) ∧ Below W.heap.size W w')
  have HQ : Hid (qtB x y 1 s = (decide (s.x ≤ x) && decide (y < s.y))) := rfl
  clear h1 h2 hb
  by_cases q1 : s.x ≤ x <;> by_cases q2 : y < s.y
  all_goals
    go_enter Try.func98, Try.ntmps98
    go_wp2
    go_ret
    exact ⟨ret_bool (by rw [unhide HQ]; simp [q1, q2]), (Below.refl _ _).alloc (Nat.le_refl _) _⟩
theorem gap_clo2 (p1 p2 : Addr) (x y : Int) (w : World) (h1 : p1.block < w.heap.size ∧ w.cell? p1 = some (.int .i64 x)) (h2 : p2.block < w.heap.size ∧ w.cell? p2 = some (.int .i64 y)) : PredS 99 #[.pointer (some p1), .pointer (some p2)] (qtB x y 2) w := by
  intro W s hb
  have hc1 := (hb.cell h1.1).trans h1.2
  have hc2 := (hb.cell h2.1).trans h2.2
  have hl1 := Nat.lt_of_lt_of_le h1.1 hb.size
  have hl2 := Nat.lt_of_lt_of_le h2.1 hb.size
  have hd1 := fun o : Obj => (World.cell?_alloc_lt W o p1 hl1).trans hc1
  have hd2 := fun o : Obj => (World.cell?_alloc_lt W o p2 hl2).trans hc2
  show Calls _ _ #[.agg #[.int .i64 s.id, .string s.nm, .int .i64 s.x, .int .i64 s.y, .int .i64 s.gn, .int .i64 s.lw, .int .i64 s.hg, .int .i64 s.ut], .pointer (some p1), .pointer (some p2)] W (fun e w' => e = .returned (.bool (qtB x y 2 s)) ∧ Below W.heap.size W w')
  have HQ : Hid (qtB x y 2 s = (decide (s.x < x) && decide (s.y ≤ y))) := rfl
  clear h1 h2 hb
  by_cases q1 : s.x < x <;> by_cases q2 : s.y ≤ y
  all_goals
    go_enter Try.func99, Try.ntmps99
    go_wp2
    go_ret
    exact ⟨ret_bool (by rw [unhide HQ]; simp [q1, q2]), (Below.refl _ _).alloc (Nat.le_refl _) _⟩
theorem gap_clo3 (p1 p2 : Addr) (x y : Int) (w : World) (h1 : p1.block < w.heap.size ∧ w.cell? p1 = some (.int .i64 x)) (h2 : p2.block < w.heap.size ∧ w.cell? p2 = some (.int .i64 y)) : PredS 100 #[.pointer (some p1), .pointer (some p2)] (qtB x y 3) w := by
  intro W s hb
  have hc1 := (hb.cell h1.1).trans h1.2
  have hc2 := (hb.cell h2.1).trans h2.2
  have hl1 := Nat.lt_of_lt_of_le h1.1 hb.size
  have hl2 := Nat.lt_of_lt_of_le h2.1 hb.size
  have hd1 := fun o : Obj => (World.cell?_alloc_lt W o p1 hl1).trans hc1
  have hd2 := fun o : Obj => (World.cell?_alloc_lt W o p2 hl2).trans hc2
  show Calls _ _ #[.agg #[.int .i64 s.id, .string s.nm, .int .i64 s.x, .int .i64 s.y, .int .i64 s.gn, .int .i64 s.lw, .int .i64 s.hg, .int .i64 s.ut], .pointer (some p1), .pointer (some p2)] W (fun e w' => e = .returned (.bool (qtB x y 3 s)) ∧ Below W.heap.size W w')
  have HQ : Hid (qtB x y 3 s = (decide (x ≤ s.x) && decide (s.y < y))) := rfl
  clear h1 h2 hb
  by_cases q1 : x ≤ s.x <;> by_cases q2 : s.y < y
  all_goals
    go_enter Try.func100, Try.ntmps100
    go_wp2
    go_ret
    exact ⟨ret_bool (by rw [unhide HQ]; simp [q1, q2]), (Below.refl _ _).alloc (Nat.le_refl _) _⟩
theorem idx4_0 (w : World) (f0 f1 f2 f3 : Value) : (Instr.index 95 (.agg #[f0, f1, f2, f3]) (.int .i64 0)).run Try.prog w = .ok f0 w := by
  simp [go_sem, Instr.index, run_underlying Try.underlying95]
theorem idx4_1 (w : World) (f0 f1 f2 f3 : Value) : (Instr.index 95 (.agg #[f0, f1, f2, f3]) (.int .i64 1)).run Try.prog w = .ok f1 w := by
  simp [go_sem, Instr.index, run_underlying Try.underlying95]
theorem idx4_2 (w : World) (f0 f1 f2 f3 : Value) : (Instr.index 95 (.agg #[f0, f1, f2, f3]) (.int .i64 2)).run Try.prog w = .ok f2 w := by
  simp [go_sem, Instr.index, run_underlying Try.underlying95]
theorem idx4_3 (w : World) (f0 f1 f2 f3 : Value) : (Instr.index 95 (.agg #[f0, f1, f2, f3]) (.int .i64 3)).run Try.prog w = .ok f3 w := by
  simp [go_sem, Instr.index, run_underlying Try.underlying95]
theorem filter_len0 {xs : List St} {x y : Int} {q m : Nat} (h : (xs.filter (qtB x y q)).length = m) : emB xs x y q = decide (m = 0) := by
  unfold emB
  rcases hm : xs.filter (qtB x y q) with _ | ⟨a, l⟩
  · rw [hm] at h; simp at h; subst h; simp
  · rw [hm] at h; simp at h; simp; omega
set_option maxHeartbeats 4000000 in
set_option maxRecDepth 100000 in
theorem implGap_any (A : Option Addr) (n c : Nat) (xs : List St) (x y : Int) (w : World) (hr : RS w w.heap.size A n xs) (hn : n ≤ 2097152) (hs : ∀ x ∈ xs, x.nm.size ≤ 9223372036854775807) :
    Calls Try.prog 42 #[.slice A n c, .int .i64 x, .int .i64 y] w (RetNB w (gapR xs x y).1 (gapR xs x y).2) := by
  have HG := hide (fun (W : World) (hb : Below w.heap.size w W) => implAre_any A n c xs W ((hr.below hb).more hb.size) (by omega) hs)
  have HR := hide (fun (W : World) (hb : Below w.heap.size w W) => (hr.below hb).more hb.size)
  clear hr
  go_enter Try.func42, Try.ntmps42
  go_wp2_with fail
  have B0 : Hid (Below w.heap.size w ((w.alloc (.cells #[.int .i64 x] 3)).alloc (.cells #[.int .i64 y] 3))) := ((Below.refl _ w).alloc (Nat.le_refl _) _).alloc (by simp) _
  have K1 : Hid (Whl ((w.alloc (.cells #[.int .i64 x] 3)).alloc (.cells #[.int .i64 y] 3)) w.heap.size 3 #[.int .i64 x]) := (Whl.here w _ _).alloc _
  have K2 : Hid (Whl ((w.alloc (.cells #[.int .i64 x] 3)).alloc (.cells #[.int .i64 y] 3)) (w.heap.size + 1) 3 #[.int .i64 y]) := Whl.here' _ _ _ (by simp)
  generalize (w.alloc (.cells #[.int .i64 x] 3)).alloc (.cells #[.int .i64 y] 3) = w0 at B0 K1 K2 ⊢
  rcases h1 : stsB xs with _ | _
  · have HRR : Hid (gapR xs x y = (0, false)) := by unfold Hid gapR; rw [h1]; rfl
    have HG1 := hide (unhide HG _ (unhide B0))
    rw [h1] at HG1
    refine (unhide HG1).mono ?_
    rintro e w1 ⟨rfl, hb⟩
    have HB1 := hide (below_next (unhide B0) hb)
    clear hb
    go_wp2_with fail
    go_ret2
    exact ⟨by rw [unhide HRR]; rfl, unhide HB1⟩
  · have HG1 := hide (unhide HG _ (unhide B0))
    rw [h1] at HG1
    refine (unhide HG1).mono ?_
    rintro e w1 ⟨rfl, hb⟩
    have HB1 := hide (below_next (unhide B0) hb)
    have K11 := hide ((unhide K1).below hb)
    have K12 := hide ((unhide K2).below hb)
    clear hb K1 K2 B0 HG HG1
    have k1 : w1.cell? ⟨w.heap.size, 0, none⟩ = some (.int .i64 x) := (unhide K11).cell 0
    have k2 : w1.cell? ⟨w.heap.size + 1, 0, none⟩ = some (.int .i64 y) := (unhide K12).cell 0
    have HP := hide (fun W => isPlace_any x y W)
    rcases h2 : (inB x 0 999 && inB y 0 999) with _ | _
    · have HRR : Hid (gapR xs x y = (0, false)) := by unfold Hid gapR; rw [h1, h2]; rfl
      rw [h2] at HP
      go_wp2_with fail
      refine (unhide HP _).mono ?_
      rintro e w2 ⟨rfl, rfl⟩
      go_wp2_with fail
      go_ret2
      exact ⟨by rw [unhide HRR]; rfl, unhide HB1⟩
    · have HRR : Hid (gapR xs x y = gapQ xs x y 0) := by unfold Hid gapR; rw [h1, h2]; rfl
      rw [h2] at HP
      go_wp2_with fail
      refine (unhide HP _).mono ?_
      rintro e w2 ⟨rfl, rfl⟩
      go_wp2_with fail
      have HB2 : Hid (Below w.heap.size w (w1.alloc (.cells #[.func (.func 97) #[] #[.pointer (some ⟨w.heap.size, 0, none⟩), .pointer (some ⟨w.heap.size + 1, 0, none⟩)], .func (.func 98) #[] #[.pointer (some ⟨w.heap.size, 0, none⟩), .pointer (some ⟨w.heap.size + 1, 0, none⟩)], .func (.func 99) #[] #[.pointer (some ⟨w.heap.size, 0, none⟩), .pointer (some ⟨w.heap.size + 1, 0, none⟩)], .func (.func 100) #[] #[.pointer (some ⟨w.heap.size, 0, none⟩), .pointer (some ⟨w.heap.size + 1, 0, none⟩)]] 95))) := (unhide HB1).alloc (unhide HB1).size _
      have K21 : Hid (Whl (w1.alloc (.cells #[.func (.func 97) #[] #[.pointer (some ⟨w.heap.size, 0, none⟩), .pointer (some ⟨w.heap.size + 1, 0, none⟩)], .func (.func 98) #[] #[.pointer (some ⟨w.heap.size, 0, none⟩), .pointer (some ⟨w.heap.size + 1, 0, none⟩)], .func (.func 99) #[] #[.pointer (some ⟨w.heap.size, 0, none⟩), .pointer (some ⟨w.heap.size + 1, 0, none⟩)], .func (.func 100) #[] #[.pointer (some ⟨w.heap.size, 0, none⟩), .pointer (some ⟨w.heap.size + 1, 0, none⟩)]] 95)) w.heap.size 3 #[.int .i64 x]) := (unhide K11).alloc _
      have K22 : Hid (Whl (w1.alloc (.cells #[.func (.func 97) #[] #[.pointer (some ⟨w.heap.size, 0, none⟩), .pointer (some ⟨w.heap.size + 1, 0, none⟩)], .func (.func 98) #[] #[.pointer (some ⟨w.heap.size, 0, none⟩), .pointer (some ⟨w.heap.size + 1, 0, none⟩)], .func (.func 99) #[] #[.pointer (some ⟨w.heap.size, 0, none⟩), .pointer (some ⟨w.heap.size + 1, 0, none⟩)], .func (.func 100) #[] #[.pointer (some ⟨w.heap.size, 0, none⟩), .pointer (some ⟨w.heap.size + 1, 0, none⟩)]] 95)) (w.heap.size + 1) 3 #[.int .i64 y]) := (unhide K12).alloc _
      generalize w1.alloc (.cells #[.func (.func 97) #[] #[.pointer (some ⟨w.heap.size, 0, none⟩), .pointer (some ⟨w.heap.size + 1, 0, none⟩)], .func (.func 98) #[] #[.pointer (some ⟨w.heap.size, 0, none⟩), .pointer (some ⟨w.heap.size + 1, 0, none⟩)], .func (.func 99) #[] #[.pointer (some ⟨w.heap.size, 0, none⟩), .pointer (some ⟨w.heap.size + 1, 0, none⟩)], .func (.func 100) #[] #[.pointer (some ⟨w.heap.size, 0, none⟩), .pointer (some ⟨w.heap.size + 1, 0, none⟩)]] 95) = w2 at HB2 K21 K22 ⊢
      clear K11 K12 k1 k2 HB1 HP
      go_loopw [26] (fun i wr => ∃ q : Nat, q ≤ 4 ∧ i = .int .i64 q ∧ Hid (gapR xs x y = gapQ xs x y q) ∧ Hid (Below w2.heap.size w2 wr)) (fun i _ => 4 - (intOf i).toNat)
      case atStart => exact ⟨0, by omega, rfl, HRR, Below.refl _ _⟩
      case round =>
        clear HRR
        obtain ⟨q, hq, rfl, hE, hB⟩ := hrel
        have HB3 := hide (below_next (unhide HB2) (unhide hB))
        have HRS := hide (unhide HR _ (unhide HB3))
        have HK1 : Hid (w.heap.size < wr.heap.size ∧ wr.cell? ⟨w.heap.size, 0, none⟩ = some (.int .i64 x)) := ⟨((unhide K21).below (unhide hB)).lt, ((unhide K21).below (unhide hB)).cell 0⟩
        have HK2 : Hid (w.heap.size + 1 < wr.heap.size ∧ wr.cell? ⟨w.heap.size + 1, 0, none⟩ = some (.int .i64 y)) := ⟨((unhide K22).below (unhide hB)).lt, ((unhide K22).below (unhide hB)).cell 0⟩
        by_cases hlt : q < 4
        · rcases (show q = 0 ∨ q = 1 ∨ q = 2 ∨ q = 3 by omega) with rfl | rfl | rfl | rfl
          · have hix := fun W => idx4_0 W (.func (.func 97) #[] #[.pointer (some ⟨w.heap.size, 0, none⟩), .pointer (some ⟨w.heap.size + 1, 0, none⟩)]) (.func (.func 98) #[] #[.pointer (some ⟨w.heap.size, 0, none⟩), .pointer (some ⟨w.heap.size + 1, 0, none⟩)]) (.func (.func 99) #[] #[.pointer (some ⟨w.heap.size, 0, none⟩), .pointer (some ⟨w.heap.size + 1, 0, none⟩)]) (.func (.func 100) #[] #[.pointer (some ⟨w.heap.size, 0, none⟩), .pointer (some ⟨w.heap.size + 1, 0, none⟩)])
            have HP := hide (filter_pred 97 #[.pointer (some ⟨w.heap.size, 0, none⟩), .pointer (some ⟨w.heap.size + 1, 0, none⟩)] (qtB x y 0) (enters_of Try.func97 (by kernel_rfl) rfl) A n c wr.heap.size xs wr (gap_clo0 _ _ x y wr (unhide HK1) (unhide HK2)) (unhide HRS) (Nat.le_refl _) hn)
            go_wp2_with fail
            refine (unhide HP).mono ?_
            rintro e w3 ⟨Af, nf, cf, rfl, hO, hb⟩
            have HEM := hide (filter_len0 hO.len)
            have HB4 := hide (below_next (unhide HB3) hb)
            have HB5 := hide (below_next (unhide hB) hb)
            clear hO hb HP
            rcases hz : decide (nf = 0) with _ | _
            · rw [hz] at HEM
              have hn0 : ((nf : Int) == 0) = false := by simpa using hz
              have HE2 : Hid (gapR xs x y = gapQ xs x y (0 + 1)) := by unfold Hid; rw [unhide hE, gapQ_next (by omega) (unhide HEM)]
              clear hz
              go_wp2_with fail
              go_roundw
              case rel => exact ⟨0 + 1, by omega, by go_num, HE2, HB5⟩
              case measure => simp [intOf]
            · rw [hz] at HEM
              obtain rfl : nf = 0 := of_decide_eq_true hz
              have HE2 : Hid (gapR xs x y = (((0 : Nat) : Int), true)) := by unfold Hid; rw [unhide hE, gapQ_hit (by omega) (unhide HEM)]
              clear hz
              go_wp2_with fail
              go_ret2
              exact ⟨by rw [unhide HE2]; rfl, unhide HB4⟩
          · have hix := fun W => idx4_1 W (.func (.func 97) #[] #[.pointer (some ⟨w.heap.size, 0, none⟩), .pointer (some ⟨w.heap.size + 1, 0, none⟩)]) (.func (.func 98) #[] #[.pointer (some ⟨w.heap.size, 0, none⟩), .pointer (some ⟨w.heap.size + 1, 0, none⟩)]) (.func (.func 99) #[] #[.pointer (some ⟨w.heap.size, 0, none⟩), .pointer (some ⟨w.heap.size + 1, 0, none⟩)]) (.func (.func 100) #[] #[.pointer (some ⟨w.heap.size, 0, none⟩), .pointer (some ⟨w.heap.size + 1, 0, none⟩)])
            have HP := hide (filter_pred 98 #[.pointer (some ⟨w.heap.size, 0, none⟩), .pointer (some ⟨w.heap.size + 1, 0, none⟩)] (qtB x y 1) (enters_of Try.func98 (by kernel_rfl) rfl) A n c wr.heap.size xs wr (gap_clo1 _ _ x y wr (unhide HK1) (unhide HK2)) (unhide HRS) (Nat.le_refl _) hn)
            go_wp2_with fail
            refine (unhide HP).mono ?_
            rintro e w3 ⟨Af, nf, cf, rfl, hO, hb⟩
            have HEM := hide (filter_len0 hO.len)
            have HB4 := hide (below_next (unhide HB3) hb)
            have HB5 := hide (below_next (unhide hB) hb)
            clear hO hb HP
            rcases hz : decide (nf = 0) with _ | _
            · rw [hz] at HEM
              have hn0 : ((nf : Int) == 0) = false := by simpa using hz
              have HE2 : Hid (gapR xs x y = gapQ xs x y (1 + 1)) := by unfold Hid; rw [unhide hE, gapQ_next (by omega) (unhide HEM)]
              clear hz
              go_wp2_with fail
              go_roundw
              case rel => exact ⟨1 + 1, by omega, by go_num, HE2, HB5⟩
              case measure => simp [intOf]
            · rw [hz] at HEM
              obtain rfl : nf = 0 := of_decide_eq_true hz
              have HE2 : Hid (gapR xs x y = (((1 : Nat) : Int), true)) := by unfold Hid; rw [unhide hE, gapQ_hit (by omega) (unhide HEM)]
              clear hz
              go_wp2_with fail
              go_ret2
              exact ⟨by rw [unhide HE2]; rfl, unhide HB4⟩
          · have hix := fun W => idx4_2 W (.func (.func 97) #[] #[.pointer (some ⟨w.heap.size, 0, none⟩), .pointer (some ⟨w.heap.size + 1, 0, none⟩)]) (.func (.func 98) #[] #[.pointer (some ⟨w.heap.size, 0, none⟩), .pointer (some ⟨w.heap.size + 1, 0, none⟩)]) (.func (.func 99) #[] #[.pointer (some ⟨w.heap.size, 0, none⟩), .pointer (some ⟨w.heap.size + 1, 0, none⟩)]) (.func (.func 100) #[] #[.pointer (some ⟨w.heap.size, 0, none⟩), .pointer (some ⟨w.heap.size + 1, 0, none⟩)])
            have HP := hide (filter_pred 99 #[.pointer (some ⟨w.heap.size, 0, none⟩), .pointer (some ⟨w.heap.size + 1, 0, none⟩)] (qtB x y 2) (enters_of Try.func99 (by kernel_rfl) rfl) A n c wr.heap.size xs wr (gap_clo2 _ _ x y wr (unhide HK1) (unhide HK2)) (unhide HRS) (Nat.le_refl _) hn)
            go_wp2_with fail
            refine (unhide HP).mono ?_
            rintro e w3 ⟨Af, nf, cf, rfl, hO, hb⟩
            have HEM := hide (filter_len0 hO.len)
            have HB4 := hide (below_next (unhide HB3) hb)
            have HB5 := hide (below_next (unhide hB) hb)
            clear hO hb HP
            rcases hz : decide (nf = 0) with _ | _
            · rw [hz] at HEM
              have hn0 : ((nf : Int) == 0) = false := by simpa using hz
              have HE2 : Hid (gapR xs x y = gapQ xs x y (2 + 1)) := by unfold Hid; rw [unhide hE, gapQ_next (by omega) (unhide HEM)]
              clear hz
              go_wp2_with fail
              go_roundw
              case rel => exact ⟨2 + 1, by omega, by go_num, HE2, HB5⟩
              case measure => simp [intOf]
            · rw [hz] at HEM
              obtain rfl : nf = 0 := of_decide_eq_true hz
              have HE2 : Hid (gapR xs x y = (((2 : Nat) : Int), true)) := by unfold Hid; rw [unhide hE, gapQ_hit (by omega) (unhide HEM)]
              clear hz
              go_wp2_with fail
              go_ret2
              exact ⟨by rw [unhide HE2]; rfl, unhide HB4⟩
          · have hix := fun W => idx4_3 W (.func (.func 97) #[] #[.pointer (some ⟨w.heap.size, 0, none⟩), .pointer (some ⟨w.heap.size + 1, 0, none⟩)]) (.func (.func 98) #[] #[.pointer (some ⟨w.heap.size, 0, none⟩), .pointer (some ⟨w.heap.size + 1, 0, none⟩)]) (.func (.func 99) #[] #[.pointer (some ⟨w.heap.size, 0, none⟩), .pointer (some ⟨w.heap.size + 1, 0, none⟩)]) (.func (.func 100) #[] #[.pointer (some ⟨w.heap.size, 0, none⟩), .pointer (some ⟨w.heap.size + 1, 0, none⟩)])
            have HP := hide (filter_pred 100 #[.pointer (some ⟨w.heap.size, 0, none⟩), .pointer (some ⟨w.heap.size + 1, 0, none⟩)] (qtB x y 3) (enters_of Try.func100 (by kernel_rfl) rfl) A n c wr.heap.size xs wr (gap_clo3 _ _ x y wr (unhide HK1) (unhide HK2)) (unhide HRS) (Nat.le_refl _) hn)
            go_wp2_with fail
            refine (unhide HP).mono ?_
            rintro e w3 ⟨Af, nf, cf, rfl, hO, hb⟩
            have HEM := hide (filter_len0 hO.len)
            have HB4 := hide (below_next (unhide HB3) hb)
            have HB5 := hide (below_next (unhide hB) hb)
            clear hO hb HP
            rcases hz : decide (nf = 0) with _ | _
            · rw [hz] at HEM
              have hn0 : ((nf : Int) == 0) = false := by simpa using hz
              have HE2 : Hid (gapR xs x y = gapQ xs x y (3 + 1)) := by unfold Hid; rw [unhide hE, gapQ_next (by omega) (unhide HEM)]
              clear hz
              go_wp2_with fail
              go_roundw
              case rel => exact ⟨3 + 1, by omega, by go_num, HE2, HB5⟩
              case measure => simp [intOf]
            · rw [hz] at HEM
              obtain rfl : nf = 0 := of_decide_eq_true hz
              have HE2 : Hid (gapR xs x y = (((3 : Nat) : Int), true)) := by unfold Hid; rw [unhide hE, gapQ_hit (by omega) (unhide HEM)]
              clear hz
              go_wp2_with fail
              go_ret2
              exact ⟨by rw [unhide HE2]; rfl, unhide HB4⟩
        · obtain rfl : q = 4 := by omega
          go_wp2_with fail
          go_ret2
          exact ⟨by rw [unhide hE, gapQ_end (by omega)]; rfl, unhide HB3⟩

theorem l3Quarter_any (x y : Int) (s : St) (w : World) : Calls Try.prog 96 #[.agg #[.int .i64 s.id, .string s.nm, .int .i64 s.x, .int .i64 s.y, .int .i64 s.gn, .int .i64 s.lw, .int .i64 s.hg, .int .i64 s.ut], .int .i64 x, .int .i64 y] w fun e w' => e = .returned (.int .i64 (qtI x y s)) ∧ Below w.heap.size w w' := by
  have HQ : Hid (qtI x y s = if (decide (x < s.x) && decide (y ≤ s.y)) = true then 0 else if (decide (s.x ≤ x) && decide (y < s.y)) = true then 1 else if (decide (s.x < x) && decide (s.y ≤ y)) = true then 2 else if (decide (x ≤ s.x) && decide (s.y < y)) = true then 3 else -1) := rfl
  have B0 := hide ((Below.refl _ w).alloc (Nat.le_refl _) (.cells #[.int .i64 s.id, .string s.nm, .int .i64 s.x, .int .i64 s.y, .int .i64 s.gn, .int .i64 s.lw, .int .i64 s.hg, .int .i64 s.ut] 26))
  rcases Int.lt_trichotomy x s.x with h | h | h
  · rcases Int.lt_trichotomy y s.y with h' | h' | h'
    · have a1 : x < s.x := by omega
      have a3 : ¬ s.x < x := by omega
      have a5 : ¬ s.x ≤ x := by omega
      have a7 : x ≤ s.x := by omega
      have a2 : y < s.y := by omega
      have a4 : ¬ s.y < y := by omega
      have a6 : ¬ s.y ≤ y := by omega
      have a8 : y ≤ s.y := by omega
      clear h h'
      go_enter Try.func96, Try.ntmps96
      go_wp2_with fail
      go_ret
      exact ⟨ret_int (by rw [unhide HQ]; (repeat' split) <;> ((try simp only [Bool.and_eq_true, decide_eq_true_eq] at *) <;> omega)), unhide B0⟩
    · have a1 : x < s.x := by omega
      have a3 : ¬ s.x < x := by omega
      have a5 : ¬ s.x ≤ x := by omega
      have a7 : x ≤ s.x := by omega
      have a2 : ¬ y < s.y := by omega
      have a4 : ¬ s.y < y := by omega
      have a6 : s.y ≤ y := by omega
      have a8 : y ≤ s.y := by omega
      clear h h'
      go_enter Try.func96, Try.ntmps96
      go_wp2_with fail
      go_ret
      exact ⟨ret_int (by rw [unhide HQ]; (repeat' split) <;> ((try simp only [Bool.and_eq_true, decide_eq_true_eq] at *) <;> omega)), unhide B0⟩
    · have a1 : x < s.x := by omega
      have a3 : ¬ s.x < x := by omega
      have a5 : ¬ s.x ≤ x := by omega
      have a7 : x ≤ s.x := by omega
      have a2 : ¬ y < s.y := by omega
      have a4 : s.y < y := by omega
      have a6 : s.y ≤ y := by omega
      have a8 : ¬ y ≤ s.y := by omega
      clear h h'
      go_enter Try.func96, Try.ntmps96
      go_wp2_with fail
      go_ret
      exact ⟨ret_int (by rw [unhide HQ]; (repeat' split) <;> ((try simp only [Bool.and_eq_true, decide_eq_true_eq] at *) <;> omega)), unhide B0⟩
  · rcases Int.lt_trichotomy y s.y with h' | h' | h'
    · have a1 : ¬ x < s.x := by omega
      have a3 : ¬ s.x < x := by omega
      have a5 : s.x ≤ x := by omega
      have a7 : x ≤ s.x := by omega
      have a2 : y < s.y := by omega
      have a4 : ¬ s.y < y := by omega
      have a6 : ¬ s.y ≤ y := by omega
      have a8 : y ≤ s.y := by omega
      clear h h'
      go_enter Try.func96, Try.ntmps96
      go_wp2_with fail
      go_ret
      exact ⟨ret_int (by rw [unhide HQ]; (repeat' split) <;> ((try simp only [Bool.and_eq_true, decide_eq_true_eq] at *) <;> omega)), unhide B0⟩
    · have a1 : ¬ x < s.x := by omega
      have a3 : ¬ s.x < x := by omega
      have a5 : s.x ≤ x := by omega
      have a7 : x ≤ s.x := by omega
      have a2 : ¬ y < s.y := by omega
      have a4 : ¬ s.y < y := by omega
      have a6 : s.y ≤ y := by omega
      have a8 : y ≤ s.y := by omega
      clear h h'
      go_enter Try.func96, Try.ntmps96
      go_wp2_with fail
      go_ret
      exact ⟨ret_int (by rw [unhide HQ]; (repeat' split) <;> ((try simp only [Bool.and_eq_true, decide_eq_true_eq] at *) <;> omega)), unhide B0⟩
    · have a1 : ¬ x < s.x := by omega
      have a3 : ¬ s.x < x := by omega
      have a5 : s.x ≤ x := by omega
      have a7 : x ≤ s.x := by omega
      have a2 : ¬ y < s.y := by omega
      have a4 : s.y < y := by omega
      have a6 : s.y ≤ y := by omega
      have a8 : ¬ y ≤ s.y := by omega
      clear h h'
      go_enter Try.func96, Try.ntmps96
      go_wp2_with fail
      go_ret
      exact ⟨ret_int (by rw [unhide HQ]; (repeat' split) <;> ((try simp only [Bool.and_eq_true, decide_eq_true_eq] at *) <;> omega)), unhide B0⟩
  · rcases Int.lt_trichotomy y s.y with h' | h' | h'
    · have a1 : ¬ x < s.x := by omega
      have a3 : s.x < x := by omega
      have a5 : s.x ≤ x := by omega
      have a7 : ¬ x ≤ s.x := by omega
      have a2 : y < s.y := by omega
      have a4 : ¬ s.y < y := by omega
      have a6 : ¬ s.y ≤ y := by omega
      have a8 : y ≤ s.y := by omega
      clear h h'
      go_enter Try.func96, Try.ntmps96
      go_wp2_with fail
      go_ret
      exact ⟨ret_int (by rw [unhide HQ]; (repeat' split) <;> ((try simp only [Bool.and_eq_true, decide_eq_true_eq] at *) <;> omega)), unhide B0⟩
    · have a1 : ¬ x < s.x := by omega
      have a3 : s.x < x := by omega
      have a5 : s.x ≤ x := by omega
      have a7 : ¬ x ≤ s.x := by omega
      have a2 : ¬ y < s.y := by omega
      have a4 : ¬ s.y < y := by omega
      have a6 : s.y ≤ y := by omega
      have a8 : y ≤ s.y := by omega
      clear h h'
      go_enter Try.func96, Try.ntmps96
      go_wp2_with fail
      go_ret
      exact ⟨ret_int (by rw [unhide HQ]; (repeat' split) <;> ((try simp only [Bool.and_eq_true, decide_eq_true_eq] at *) <;> omega)), unhide B0⟩
    · have a1 : ¬ x < s.x := by omega
      have a3 : s.x < x := by omega
      have a5 : s.x ≤ x := by omega
      have a7 : ¬ x ≤ s.x := by omega
      have a2 : ¬ y < s.y := by omega
      have a4 : s.y < y := by omega
      have a6 : s.y ≤ y := by omega
      have a8 : ¬ y ≤ s.y := by omega
      clear h h'
      go_enter Try.func96, Try.ntmps96
      go_wp2_with fail
      go_ret
      exact ⟨ret_int (by rw [unhide HQ]; (repeat' split) <;> ((try simp only [Bool.and_eq_true, decide_eq_true_eq] at *) <;> omega)), unhide B0⟩
set_option maxHeartbeats 4000000 in
set_option maxRecDepth 100000 in
theorem specGap_any (A : Option Addr) (n c : Nat) (xs : List St) (x y : Int) (w : World) (hr : RS w w.heap.size A n xs) (hn : n ≤ 2097152) (hs : ∀ x ∈ xs, x.nm.size ≤ 9223372036854775807) :
    Calls Try.prog 41 #[.slice A n c, .int .i64 x, .int .i64 y] w (RetNB w (gapR xs x y).1 (gapR xs x y).2) := by
  have HG := hide (l3Good_any A n c xs w hr (by omega) hs)
  have HL := hide hr.len
  have HR := hide (fun (W : World) (hb : Below w.heap.size w W) => (hr.below hb).more hb.size)
  clear hr
  go_enter Try.func41, Try.ntmps41
  go_wp2_with fail
  rcases h1 : stsB xs with _ | _
  · have HRR : Hid (gapR xs x y = (0, false)) := by unfold Hid gapR; rw [h1]; rfl
    rw [h1] at HG
    refine (unhide HG).mono ?_
    rintro e w1 ⟨rfl, hb⟩
    have HB1 := hide hb
    clear hb
    go_wp2_with fail
    go_ret2
    exact ⟨by rw [unhide HRR]; rfl, unhide HB1⟩
  · rw [h1] at HG
    refine (unhide HG).mono ?_
    rintro e w1 ⟨rfl, hb⟩
    have HB1 := hide hb
    clear hb HG
    have HP := hide (fun W => l2Place_any x y W)
    rcases h2 : (inB x 0 999 && inB y 0 999) with _ | _
    · have HRR : Hid (gapR xs x y = (0, false)) := by unfold Hid gapR; rw [h1, h2]; rfl
      rw [h2] at HP
      go_wp2_with fail
      refine (unhide HP _).mono ?_
      rintro e w2 ⟨rfl, rfl⟩
      go_wp2_with fail
      go_ret2
      exact ⟨by rw [unhide HRR]; rfl, unhide HB1⟩
    · have HRR : Hid (gapR xs x y = gapQ xs x y 0) := by unfold Hid gapR; rw [h1, h2]; rfl
      rw [h2] at HP
      go_wp2_with fail
      refine (unhide HP _).mono ?_
      rintro e w2 ⟨rfl, rfl⟩
      go_wp2_with fail
      clear HP
      go_loopw [8] (fun i wr => ∃ q : Nat, q ≤ 4 ∧ i = .int .i64 q ∧ Hid (gapR xs x y = gapQ xs x y q) ∧ Hid (Below w.heap.size w wr)) (fun i _ => 4 - (intOf i).toNat)
      case atStart => exact ⟨0, by omega, rfl, HRR, HB1⟩
      case round =>
        clear HRR
        obtain ⟨q, hq, rfl, hE, hB⟩ := hrel
        obtain ⟨wo, rfl⟩ : ∃ wo : World, wo = wr := ⟨_, rfl⟩
        by_cases hlt : q < 4
        · have l0 : (q : Int) ≤ 3 := by omega
          go_wp2_with fail
          go_loopw [9, 10] (fun ag i wr => ∃ (k : Nat), k ≤ n ∧ i = .int .i64 k ∧ ag = .bool (emB (xs.take k) x y q) ∧ Hid (Below wo.heap.size wo wr)) (fun _ i _ => n - (intOf i).toNat)
          case atStart => exact ⟨0, Nat.zero_le _, rfl, by simp [emB], Below.refl _ _⟩
          case round =>
            obtain ⟨k, hk, rfl, rfl, hQ⟩ := hrel
            have HB2 := hide (below_next (unhide hB) (unhide hQ))
            by_cases hkn : k < n
            · obtain ⟨ad, s, rfl, hbx, hx, hrow⟩ := (unhide HR _ (unhide HB2)).get hkn
              obtain ⟨c0, c1, c2, c3, c4, c5, c6, c7⟩ := hrow
              have l1 : (k : Int) < (n : Int) := by omega
              have l2 : (0 : Int) ≤ (k : Int) := by omega
              have HEM : Hid (emB (xs.take (k + 1)) x y q = (emB (xs.take k) x y q && !(qtB x y q s))) := by
                unfold Hid emB
                rw [List.take_add_one, unhide hx, List.filter_append]
                cases hqq : qtB x y q s <;> simp [hqq]
              have HQS := hide (qt_same x y s q hlt)
              clear hx
              rcases hag : emB (xs.take k) x y q with _ | _
              · rw [hag, Bool.false_and] at HEM
                go_wp2_with fail
                go_roundw
                case rel => exact ⟨k + 1, by omega, by go_num, by rw [unhide HEM], hQ⟩
                case measure => simp [intOf]; omega
              · rw [hag, Bool.true_and] at HEM
                have HT := hide (l3Quarter_any x y s wr)
                have hne : (qtI x y s != (q : Int)) = !(qtB x y q s) := by rw [← unhide HQS]; rfl
                rw [← hne] at HEM
                clear hne HQS
                generalize qtI x y s = v at *
                go_wp2_with fail
                refine (unhide HT).mono ?_
                rintro e wt ⟨rfl, hb⟩
                have HQ2 := hide (below_next (unhide hQ) hb)
                clear hb
                go_wp2_with fail
                go_roundw
                case rel => exact ⟨k + 1, by omega, by go_num, by rw [unhide HEM], HQ2⟩
                case measure => simp [intOf]; omega
            · obtain rfl : k = n := by omega
              have HT : Hid (xs.take k = xs) := List.take_of_length_le (by have := unhide HL; omega)
              rw [unhide HT]
              have l3 : ¬ (k : Int) < (k : Int) := by omega
              rcases hag : emB xs x y q with _ | _
              · have HE2 : Hid (gapR xs x y = gapQ xs x y (q + 1)) := by unfold Hid; rw [unhide hE, gapQ_next hlt hag]
                clear hag
                go_wp2_with fail
                go_roundw
                case rel => exact ⟨q + 1, by omega, by go_num, HE2, HB2⟩
                case measure => simp [intOf]; omega
              · have HE2 : Hid (gapR xs x y = ((q : Int), true)) := by unfold Hid; rw [unhide hE, gapQ_hit hlt hag]
                clear hag
                go_wp2_with fail
                go_ret2
                exact ⟨by rw [unhide HE2]; rfl, unhide HB2⟩
        · obtain rfl : q = 4 := by omega
          go_wp2_with fail
          go_ret2
          exact ⟨by rw [unhide hE, gapQ_end (by omega)]; rfl, unhide hB⟩
end Go.Proofs.Ytihkocplgciifaa
