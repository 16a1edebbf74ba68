/- Chapter 3, the walks: what the laws of stations draw. (By gen_drawStM.py.) -/
import Derived.Test.YtihkocplgciifaaProg
import Derived.Test.YtihkocplgciifaaDrawStL
import Derived.Deep.RegionHeld3
namespace Go.Proofs.Ytihkocplgciifaa
open Go.RowKit

def RetDL (w : World) (e : Ending) (w' : World) : Prop := ∃ (A' : Option Addr) (n' c' : Nat) (ys : List St), e = .returned (.slice A' n' c') ∧ OwnS w' w.heap.size A' n' c' ys ∧ n' ≤ 11 ∧ (∀ x ∈ ys, x.nm.size ≤ 11) ∧ Below w.heap.size w w'
def RetDL1 (w : World) (e : Ending) (w' : World) : Prop := ∃ (A' : Option Addr) (n' c' : Nat) (ys : List St) (x : Int), e = .returned (.tuple #[.slice A' n' c', .int .i64 x]) ∧ OwnS w' w.heap.size A' n' c' ys ∧ n' ≤ 11 ∧ (∀ x ∈ ys, x.nm.size ≤ 11) ∧ Below w.heap.size w w'
def RetDL2 (w : World) (e : Ending) (w' : World) : Prop := ∃ (A' : Option Addr) (n' c' : Nat) (ys : List St) (x y : Int), e = .returned (.tuple #[.slice A' n' c', .int .i64 x, .int .i64 y]) ∧ OwnS w' w.heap.size A' n' c' ys ∧ n' ≤ 11 ∧ (∀ x ∈ ys, x.nm.size ≤ 11) ∧ Below w.heap.size w w'
def RetDL3 (w : World) (e : Ending) (w' : World) : Prop := ∃ (A' : Option Addr) (n' c' : Nat) (ys : List St) (x y z : Int), e = .returned (.tuple #[.slice A' n' c', .int .i64 x, .int .i64 y, .int .i64 z]) ∧ OwnS w' w.heap.size A' n' c' ys ∧ n' ≤ 11 ∧ (∀ x ∈ ys, x.nm.size ≤ 11) ∧ Below w.heap.size w w'
def RetDS (w : World) (e : Ending) (w' : World) : Prop := ∃ s : St, e = .returned (.agg #[.int .i64 s.id, .string s.nm, .int .i64 s.x, .int .i64 s.y, .int .i64 s.gn, .int .i64 s.lw, .int .i64 s.hg, .int .i64 s.ut]) ∧ s.nm.size ≤ 11 ∧ Below w.heap.size w w'
def RetDS1 (w : World) (e : Ending) (w' : World) : Prop := ∃ (s : St) (x : Int), e = .returned (.tuple #[.agg #[.int .i64 s.id, .string s.nm, .int .i64 s.x, .int .i64 s.y, .int .i64 s.gn, .int .i64 s.lw, .int .i64 s.hg, .int .i64 s.ut], .int .i64 x]) ∧ s.nm.size ≤ 11 ∧ Below w.heap.size w w'
theorem results_tmp4 {fn : Func} {t u v z : Tmp} (h : fn.results = #[.tmp t, .tmp u, .tmp v, .tmp z]) (tmps : Array Value) (P : Program) (w : World) :
    (results fn tmps).run P w = .ok (.tuple #[tmps.getD t undef, tmps.getD u undef, tmps.getD v undef, tmps.getD z undef]) w := by
  simp [results, h]
theorem eight_cells {w : World} {g : Nat} {T : TypeId} {a0 a1 a2 a3 a4 a5 a6 a7 : Value} (h : Whl w g T #[a0, a1, a2, a3, a4, a5, a6, a7]) : w.cell? ⟨g, 0, none⟩ = some a0 ∧ w.cell? ⟨g, 1, none⟩ = some a1 ∧ w.cell? ⟨g, 2, none⟩ = some a2 ∧ w.cell? ⟨g, 3, none⟩ = some a3 ∧ w.cell? ⟨g, 4, none⟩ = some a4 ∧ w.cell? ⟨g, 5, none⟩ = some a5 ∧ w.cell? ⟨g, 6, none⟩ = some a6 ∧ w.cell? ⟨g, 7, none⟩ = some a7 :=
  ⟨h.cell 0, h.cell 1, h.cell 2, h.cell 3, h.cell 4, h.cell 5, h.cell 6, h.cell 7⟩

set_option maxHeartbeats 4000000 in
set_option maxRecDepth 100000 in
theorem drawAreStations_any (A : Option Addr) (n c : Nat) (xs : List Int) (w : World) (hr : RB w w.heap.size A n xs) (hn : n ≤ 65536) :
    Calls Try.prog 107 #[.slice A n c] w (RetDL w) := by
  have HC0 := hide (Cur.new c hr)
  have HBA := hide ((Below.refl _ w).alloc (Nat.le_refl _) (.cells #[.slice A n c, .int .i64 0, .int .u64 0] 101))
  clear hr
  go_enter Try.func107, Try.ntmps107
  go_wp2_with fail
  generalize w.alloc (.cells #[.slice A n c, .int .i64 0, .int .u64 0] 101) = w0 at *
  have hgA := (unhide HC0).lt
  have HG0 := hide (World.grownBy.refl w0 (some w.heap.size))
  refine (stations_any w.heap.size n c (0) A xs w0 (unhide HC0) (by omega) (by omega)).mono ?_
  rintro e w1 ⟨A', n', c', ys, rfl, hO, hn', hN, hC, hg⟩
  have HO1 := hide hO
  have HN := hide hN
  have HG1 := hide (grownBy_trans (unhide HG0) hg)
  have HC1 := hide hC
  clear hO hC hg hN HC0 HG0
  go_wp2_with fail
  go_ret
  exact ⟨A', n', c', ys, rfl, OwnS.less (unhide HO1) (Nat.le_of_lt hgA), hn', unhide HN, below_cur (unhide HBA) (unhide HG1) (Nat.le_refl _)⟩

set_option maxHeartbeats 4000000 in
set_option maxRecDepth 100000 in
theorem drawCommonBand_any (A : Option Addr) (n c : Nat) (xs : List Int) (w : World) (hr : RB w w.heap.size A n xs) (hn : n ≤ 65536) :
    Calls Try.prog 51 #[.slice A n c] w (RetDL w) := by
  have HD := hide (drawAreStations_any A n c xs w hr hn)
  clear hr
  go_enter Try.func51, Try.ntmps51
  go_wp2_with fail
  refine (unhide HD).mono ?_
  rintro e w1 ⟨A', n', c', ys, rfl, hO, hn', hN, hb⟩
  have HO := hide hO
  have HN := hide hN
  have HB := hide hb
  clear hO hN hb HD
  go_wp2_with fail
  go_ret
  exact ⟨A', n', c', ys, rfl, unhide HO, hn', unhide HN, unhide HB⟩

set_option maxHeartbeats 4000000 in
set_option maxRecDepth 100000 in
theorem drawPairDistances_any (A : Option Addr) (n c : Nat) (xs : List Int) (w : World) (hr : RB w w.heap.size A n xs) (hn : n ≤ 65536) :
    Calls Try.prog 57 #[.slice A n c] w (RetDL w) := by
  have HD := hide (drawAreStations_any A n c xs w hr hn)
  clear hr
  go_enter Try.func57, Try.ntmps57
  go_wp2_with fail
  refine (unhide HD).mono ?_
  rintro e w1 ⟨A', n', c', ys, rfl, hO, hn', hN, hb⟩
  have HO := hide hO
  have HN := hide hN
  have HB := hide hb
  clear hO hN hb HD
  go_wp2_with fail
  go_ret
  exact ⟨A', n', c', ys, rfl, unhide HO, hn', unhide HN, unhide HB⟩

set_option maxHeartbeats 4000000 in
set_option maxRecDepth 100000 in
theorem drawStationsSeeing_any (A : Option Addr) (n c : Nat) (xs : List Int) (w : World) (hr : RB w w.heap.size A n xs) (hn : n ≤ 65536) :
    Calls Try.prog 53 #[.slice A n c] w (RetDL1 w) := by
  have HC0 := hide (Cur.new c hr)
  have HBA := hide ((Below.refl _ w).alloc (Nat.le_refl _) (.cells #[.slice A n c, .int .i64 0, .int .u64 0] 101))
  clear hr
  go_enter Try.func53, Try.ntmps53
  go_wp2_with fail
  generalize w.alloc (.cells #[.slice A n c, .int .i64 0, .int .u64 0] 101) = w0 at *
  have hgA := (unhide HC0).lt
  have HG0 := hide (World.grownBy.refl w0 (some w.heap.size))
  refine (stations_any w.heap.size n c (0) A xs w0 (unhide HC0) (by omega) (by omega)).mono ?_
  rintro e w1 ⟨A', n', c', ys, rfl, hO, hn', hN, hC, hg⟩
  have HO1 := hide hO
  have HN := hide hN
  have HG1 := hide (grownBy_trans (unhide HG0) hg)
  have HC1 := hide hC
  clear hO hC hg hN HC0 HG0
  go_wp2_with fail
  refine (pick_any w.heap.size n c (0 + 300) A xs 24 _ ((unhide HC1).alloc _) (by omega) (by omega) (by omega) (by omega)).mono ?_
  rintro e wp ⟨y9, rfl, ⟨y0, y1⟩, hC, hg⟩
  have HL := hide (Whl.gr (Whl.here w1 3 (cI [1, 5, 99, 100, 2000, 5000, 0, 5001]).toArray) hg (new_ne_cur (unhide HC1)).symm)
  have hgl := (new_ne_cur (unhide HC1))
  have HGx := hide (grownBy_trans (grown_alloc (unhide HG1) _) hg)
  have HOx := hide (((unhide HO1).alloc (.cells (cI [1, 5, 99, 100, 2000, 5000, 0, 5001]).toArray 3)).gr hg hgA)
  have HCx := hide hC
  obtain ⟨z9, hh, z1, z2, z3, z4, z5, z6⟩ := quo11 6 8 (by decide) (by decide) rfl y0 y1
  have z8 : (hh : Int) ≤ 8 := z4
  have z0 : y9 / 11 = z9 := by rw [← z1, Int.tdiv_eq_ediv_of_nonneg y0]
  have z7 : 6 + z9 = (hh : Int) := by rw [← z3, IntWalk.i64_in _ (by omega)]
  clear hC hg HC1 HG1 HO1 y0 y1 z2 z3 z4
  go_wp2_with fail
  refine (among_some w.heap.size n c (0 + 300 + 2) w1.heap.size A xs wp [1, 5, 99, 100, 2000, 5000, 0, 5001] hh 8 (unhide HL) hgl z6 z5 (by simp) (unhide HCx) (by omega) (by omega)).mono ?_
  rintro e w2 ⟨x, rfl, _, hC, hg⟩
  have HG2 := hide (grownBy_trans (unhide HGx) hg)
  have HC2 := hide hC
  have HO2 := hide ((unhide HOx).gr hg hgA)
  clear hC hg HCx HGx HOx HL hgl z1 z8 z0 z7 z5 z6
  go_wp2_with fail
  go_ret2
  exact ⟨A', n', c', ys, x, rfl, OwnS.less (unhide HO2) (Nat.le_of_lt hgA), hn', unhide HN, below_cur (unhide HBA) (unhide HG2) (Nat.le_refl _)⟩

set_option maxHeartbeats 4000000 in
set_option maxRecDepth 100000 in
theorem drawUncalibrated_any (A : Option Addr) (n c : Nat) (xs : List Int) (w : World) (hr : RB w w.heap.size A n xs) (hn : n ≤ 65536) :
    Calls Try.prog 60 #[.slice A n c] w (RetDL1 w) := by
  have HC0 := hide (Cur.new c hr)
  have HBA := hide ((Below.refl _ w).alloc (Nat.le_refl _) (.cells #[.slice A n c, .int .i64 0, .int .u64 0] 101))
  clear hr
  go_enter Try.func60, Try.ntmps60
  go_wp2_with fail
  generalize w.alloc (.cells #[.slice A n c, .int .i64 0, .int .u64 0] 101) = w0 at *
  have hgA := (unhide HC0).lt
  have HG0 := hide (World.grownBy.refl w0 (some w.heap.size))
  refine (stations_any w.heap.size n c (0) A xs w0 (unhide HC0) (by omega) (by omega)).mono ?_
  rintro e w1 ⟨A', n', c', ys, rfl, hO, hn', hN, hC, hg⟩
  have HO1 := hide hO
  have HN := hide hN
  have HG1 := hide (grownBy_trans (unhide HG0) hg)
  have HC1 := hide hC
  clear hO hC hg hN HC0 HG0
  go_wp2_with fail
  refine (pick_any w.heap.size n c (0 + 300) A xs 24 _ ((unhide HC1).alloc _) (by omega) (by omega) (by omega) (by omega)).mono ?_
  rintro e wp ⟨y9, rfl, ⟨y0, y1⟩, hC, hg⟩
  have HL := hide (Whl.gr (Whl.here w1 3 (cI [0, 1, 500, 501, 1000000, -1, 1000001]).toArray) hg (new_ne_cur (unhide HC1)).symm)
  have hgl := (new_ne_cur (unhide HC1))
  have HGx := hide (grownBy_trans (grown_alloc (unhide HG1) _) hg)
  have HOx := hide (((unhide HO1).alloc (.cells (cI [0, 1, 500, 501, 1000000, -1, 1000001]).toArray 3)).gr hg hgA)
  have HCx := hide hC
  obtain ⟨z9, hh, z1, z2, z3, z4, z5, z6⟩ := quo11 5 7 (by decide) (by decide) rfl y0 y1
  have z8 : (hh : Int) ≤ 7 := z4
  have z0 : y9 / 11 = z9 := by rw [← z1, Int.tdiv_eq_ediv_of_nonneg y0]
  have z7 : 5 + z9 = (hh : Int) := by rw [← z3, IntWalk.i64_in _ (by omega)]
  clear hC hg HC1 HG1 HO1 y0 y1 z2 z3 z4
  go_wp2_with fail
  refine (among_some w.heap.size n c (0 + 300 + 2) w1.heap.size A xs wp [0, 1, 500, 501, 1000000, -1, 1000001] hh 7 (unhide HL) hgl z6 z5 (by simp) (unhide HCx) (by omega) (by omega)).mono ?_
  rintro e w2 ⟨x, rfl, _, hC, hg⟩
  have HG2 := hide (grownBy_trans (unhide HGx) hg)
  have HC2 := hide hC
  have HO2 := hide ((unhide HOx).gr hg hgA)
  clear hC hg HCx HGx HOx HL hgl z1 z8 z0 z7 z5 z6
  go_wp2_with fail
  go_ret2
  exact ⟨A', n', c', ys, x, rfl, OwnS.less (unhide HO2) (Nat.le_of_lt hgA), hn', unhide HN, below_cur (unhide HBA) (unhide HG2) (Nat.le_refl _)⟩

set_option maxHeartbeats 4000000 in
set_option maxRecDepth 100000 in
theorem drawNearestStations_any (A : Option Addr) (n c : Nat) (xs : List Int) (w : World) (hr : RB w w.heap.size A n xs) (hn : n ≤ 65536) :
    Calls Try.prog 49 #[.slice A n c] w (RetDL3 w) := by
  have HC0 := hide (Cur.new c hr)
  have HBA := hide ((Below.refl _ w).alloc (Nat.le_refl _) (.cells #[.slice A n c, .int .i64 0, .int .u64 0] 101))
  clear hr
  go_enter Try.func49, Try.ntmps49
  go_wp2_with fail
  generalize w.alloc (.cells #[.slice A n c, .int .i64 0, .int .u64 0] 101) = w0 at *
  have hgA := (unhide HC0).lt
  have HG0 := hide (World.grownBy.refl w0 (some w.heap.size))
  refine (stations_any w.heap.size n c (0) A xs w0 (unhide HC0) (by omega) (by omega)).mono ?_
  rintro e w1 ⟨A', n', c', ys, rfl, hO, hn', hN, hC, hg⟩
  have HO1 := hide hO
  have HN := hide hN
  have HG1 := hide (grownBy_trans (unhide HG0) hg)
  have HC1 := hide hC
  clear hO hC hg hN HC0 HG0
  go_wp2_with fail
  refine (place_any w.heap.size n c (0 + 300) A xs w1 (unhide HC1) (by omega) (by omega)).mono ?_
  rintro e w2 ⟨x, y, rfl, hC, hg⟩
  have HG2 := hide (grownBy_trans (unhide HG1) hg)
  have HC2 := hide hC
  have HO2 := hide ((unhide HO1).gr hg hgA)
  clear HO1
  clear hC hg HC1 HG1
  go_wp2_with fail
  refine (pick_any w.heap.size n c (0 + 300 + 8) A xs 24 _ ((unhide HC2).alloc _) (by omega) (by omega) (by omega) (by omega)).mono ?_
  rintro e wp ⟨y9, rfl, ⟨y0, y1⟩, hC, hg⟩
  have HL := hide (Whl.gr (Whl.here w2 3 (cI [1, 2, 3, 10, 0, 11]).toArray) hg (new_ne_cur (unhide HC2)).symm)
  have hgl := (new_ne_cur (unhide HC2))
  have HGx := hide (grownBy_trans (grown_alloc (unhide HG2) _) hg)
  have HOx := hide (((unhide HO2).alloc (.cells (cI [1, 2, 3, 10, 0, 11]).toArray 3)).gr hg hgA)
  have HCx := hide hC
  obtain ⟨z9, hh, z1, z2, z3, z4, z5, z6⟩ := quo11 4 6 (by decide) (by decide) rfl y0 y1
  have z8 : (hh : Int) ≤ 6 := z4
  have z0 : y9 / 11 = z9 := by rw [← z1, Int.tdiv_eq_ediv_of_nonneg y0]
  have z7 : 4 + z9 = (hh : Int) := by rw [← z3, IntWalk.i64_in _ (by omega)]
  clear hC hg HC2 HG2 HO2 y0 y1 z2 z3 z4
  go_wp2_with fail
  refine (among_some w.heap.size n c (0 + 300 + 8 + 2) w2.heap.size A xs wp [1, 2, 3, 10, 0, 11] hh 6 (unhide HL) hgl z6 z5 (by simp) (unhide HCx) (by omega) (by omega)).mono ?_
  rintro e w3 ⟨z, rfl, _, hC, hg⟩
  have HG3 := hide (grownBy_trans (unhide HGx) hg)
  have HC3 := hide hC
  have HO3 := hide ((unhide HOx).gr hg hgA)
  clear hC hg HCx HGx HOx HL hgl z1 z8 z0 z7 z5 z6
  go_wp2_with fail
  refine bodyPost_ret (results_tmp4 rfl _ _ _) rfl ?_
  exact ⟨A', n', c', ys, x, y, z, rfl, OwnS.less (unhide HO3) (Nat.le_of_lt hgA), hn', unhide HN, below_cur (unhide HBA) (unhide HG3) (Nat.le_refl _)⟩

set_option maxHeartbeats 4000000 in
set_option maxRecDepth 100000 in
theorem drawLargestGap_any (A : Option Addr) (n c : Nat) (xs : List Int) (w : World) (hr : RB w w.heap.size A n xs) (hn : n ≤ 65536) :
    Calls Try.prog 59 #[.slice A n c] w (RetDL2 w) := by
  have HC0 := hide (Cur.new c hr)
  have HBA := hide ((Below.refl _ w).alloc (Nat.le_refl _) (.cells #[.slice A n c, .int .i64 0, .int .u64 0] 101))
  clear hr
  go_enter Try.func59, Try.ntmps59
  go_wp2_with fail
  generalize w.alloc (.cells #[.slice A n c, .int .i64 0, .int .u64 0] 101) = w0 at *
  have hgA := (unhide HC0).lt
  have HG0 := hide (World.grownBy.refl w0 (some w.heap.size))
  refine (stations_any w.heap.size n c (0) A xs w0 (unhide HC0) (by omega) (by omega)).mono ?_
  rintro e w1 ⟨A', n', c', ys, rfl, hO, hn', hN, hC, hg⟩
  have HO1 := hide hO
  have HN := hide hN
  have HG1 := hide (grownBy_trans (unhide HG0) hg)
  have HC1 := hide hC
  clear hO hC hg hN HC0 HG0
  go_wp2_with fail
  refine (place_any w.heap.size n c (0 + 300) A xs w1 (unhide HC1) (by omega) (by omega)).mono ?_
  rintro e w2 ⟨x, y, rfl, hC, hg⟩
  have HG2 := hide (grownBy_trans (unhide HG1) hg)
  have HC2 := hide hC
  have HO2 := hide ((unhide HO1).gr hg hgA)
  clear HO1
  clear hC hg HC1 HG1
  go_wp2_with fail
  go_ret3
  exact ⟨A', n', c', ys, x, y, rfl, OwnS.less (unhide HO2) (Nat.le_of_lt hgA), hn', unhide HN, below_cur (unhide HBA) (unhide HG2) (Nat.le_refl _)⟩

set_option maxHeartbeats 4000000 in
set_option maxRecDepth 100000 in
theorem drawStationId_any (g n c b : Nat) (A : Option Addr) (xs : List Int) (B : Option Addr) (m d : Nat) (ys : List St) (w : World) (h : Cur w g A n c xs b) (hn : n ≤ 1048576) (hb : b ≤ 800000) (lo : Nat) (hO : OwnS w lo B m d ys) (hg : g < lo) (hm : m ≤ 11) :
    Calls Try.prog 109 #[.pointer (some ⟨g, 0, none⟩), .slice B m d] w (RetC w g A n c xs (b + 4) fun _ => True) := by
  have HC0 := hide h
  have HO0 := hide hO
  clear h hO
  by_cases h0 : m = 0
  · subst h0
    go_enter Try.func109, Try.ntmps109
    go_wp2_with fail
    refine (among_lit g n c b _ A xs w rfl [0, 1, 50] 3 _ (fun _ => True) rfl rfl (by omega) (by omega) (by simp) (unhide HC0) (by omega) (by omega)).mono ?_
    rintro e w1 ⟨v, rfl, _, hC, hgr⟩
    have HC1 := hide hC
    have HG1 := hide hgr
    clear hC hgr
    go_wp2_with fail
    go_ret
    exact ⟨v, rfl, trivial, (unhide HC1).more (by omega), unhide HG1⟩
  · have l0 : ((m : Int) == 0) = false := by simp; omega
    have l1 : 0 < m := by omega
    clear h0
    go_enter Try.func109, Try.ntmps109
    go_wp2_with fail
    refine (one_any g n c b A xs 10 w (unhide HC0) (by omega) (by omega) (by omega) (by omega)).mono ?_
    rintro e w1 ⟨bb, rfl, hC, hgr⟩
    have HC1 := hide hC
    have HG1 := hide hgr
    have HO1 := hide ((unhide HO0).gr hgr hg)
    clear hC hgr HC0 HO0
    rcases bb with _ | _
    · go_wp2_with fail
      refine (pick_any g n c (b + 2) A xs m w1 (unhide HC1) (by omega) (by omega) (by omega) (by omega)).mono ?_
      rintro e w2 ⟨q, rfl, ⟨q0, q1⟩, hC, hgr⟩
      have HC2 := hide hC
      have HG2 := hide (grownBy_trans (unhide HG1) hgr)
      have HO2 := hide ((unhide HO1).gr hgr hg)
      clear hC hgr HC1 HG1 HO1
      obtain ⟨k, rfl⟩ : ∃ k : Nat, q = (k : Int) := ⟨q.toNat, by omega⟩
      obtain ⟨ad, s, rfl, hbx, hx, hrow⟩ := (unhide HO2).rs.get (k := k) (by omega)
      have c0 := hrow.c0
      clear hrow hx hbx l0
      go_wp2_with fail
      go_ret
      exact ⟨s.id, rfl, trivial, (unhide HC2).more (by omega), unhide HG2⟩
    · go_wp2_with fail
      refine (among_lit g n c (b + 2) _ A xs w1 rfl [0, 1, 50] 3 _ (fun _ => True) rfl rfl (by omega) (by omega) (by simp) (unhide HC1) (by omega) (by omega)).mono ?_
      rintro e w2 ⟨v, rfl, _, hC, hgr⟩
      have HC2 := hide hC
      have HG2 := hide (grownBy_trans (unhide HG1) hgr)
      clear hC hgr
      go_wp2_with fail
      go_ret
      exact ⟨v, rfl, trivial, (unhide HC2).more (by omega), unhide HG2⟩

set_option maxHeartbeats 4000000 in
set_option maxRecDepth 100000 in
theorem drawRecalibrate_any (A : Option Addr) (n c : Nat) (xs : List Int) (w : World) (hr : RB w w.heap.size A n xs) (hn : n ≤ 65536) :
    Calls Try.prog 54 #[.slice A n c] w (RetDL3 w) := by
  have HC0 := hide (Cur.new c hr)
  have HBA := hide ((Below.refl _ w).alloc (Nat.le_refl _) (.cells #[.slice A n c, .int .i64 0, .int .u64 0] 101))
  clear hr
  go_enter Try.func54, Try.ntmps54
  go_wp2_with fail
  generalize w.alloc (.cells #[.slice A n c, .int .i64 0, .int .u64 0] 101) = w0 at *
  have hgA := (unhide HC0).lt
  have HG0 := hide (World.grownBy.refl w0 (some w.heap.size))
  refine (stations_any w.heap.size n c (0) A xs w0 (unhide HC0) (by omega) (by omega)).mono ?_
  rintro e w1 ⟨A', n', c', ys, rfl, hO, hn', hN, hC, hg⟩
  have HO1 := hide hO
  have HN := hide hN
  have HG1 := hide (grownBy_trans (unhide HG0) hg)
  have HC1 := hide hC
  clear hO hC hg hN HC0 HG0
  go_wp2_with fail
  refine (drawStationId_any w.heap.size n c (0 + 300) A xs A' n' c' ys w1 (unhide HC1) (by omega) (by omega) _ (unhide HO1) hgA hn').mono ?_
  rintro e w2 ⟨x, rfl, _, hC, hg⟩
  have HG2 := hide (grownBy_trans (unhide HG1) hg)
  have HC2 := hide hC
  have HO2 := hide ((unhide HO1).gr hg hgA)
  clear HO1
  clear hC hg HC1 HG1
  go_wp2_with fail
  refine (pick_any w.heap.size n c (0 + 300 + 4) A xs 24 _ ((unhide HC2).alloc _) (by omega) (by omega) (by omega) (by omega)).mono ?_
  rintro e wp ⟨y9, rfl, ⟨y0, y1⟩, hC, hg⟩
  have HL := hide (Whl.gr (Whl.here w2 3 (cI [1, 77, 10000, 0, 10001]).toArray) hg (new_ne_cur (unhide HC2)).symm)
  have hgl := (new_ne_cur (unhide HC2))
  have HGx := hide (grownBy_trans (grown_alloc (unhide HG2) _) hg)
  have HOx := hide (((unhide HO2).alloc (.cells (cI [1, 77, 10000, 0, 10001]).toArray 3)).gr hg hgA)
  have HCx := hide hC
  obtain ⟨z9, hh, z1, z2, z3, z4, z5, z6⟩ := quo11 3 5 (by decide) (by decide) rfl y0 y1
  have z8 : (hh : Int) ≤ 5 := z4
  have z0 : y9 / 11 = z9 := by rw [← z1, Int.tdiv_eq_ediv_of_nonneg y0]
  have z7 : 3 + z9 = (hh : Int) := by rw [← z3, IntWalk.i64_in _ (by omega)]
  clear hC hg HC2 HG2 HO2 y0 y1 z2 z3 z4
  go_wp2_with fail
  refine (among_some w.heap.size n c (0 + 300 + 4 + 2) w2.heap.size A xs wp [1, 77, 10000, 0, 10001] hh 5 (unhide HL) hgl z6 z5 (by simp) (unhide HCx) (by omega) (by omega)).mono ?_
  rintro e w3 ⟨y, rfl, _, hC, hg⟩
  have HG3 := hide (grownBy_trans (unhide HGx) hg)
  have HC3 := hide hC
  have HO3 := hide ((unhide HOx).gr hg hgA)
  clear hC hg HCx HGx HOx HL hgl z1 z8 z0 z7 z5 z6
  go_wp2_with fail
  refine (pick_any w.heap.size n c (0 + 300 + 4 + 2 + 2) A xs 24 _ ((unhide HC3).alloc _) (by omega) (by omega) (by omega) (by omega)).mono ?_
  rintro e wp ⟨y9, rfl, ⟨y0, y1⟩, hC, hg⟩
  have HL := hide (Whl.gr (Whl.here w3 3 (cI [0, 500, 700, 1000000, 1000001, -1]).toArray) hg (new_ne_cur (unhide HC3)).symm)
  have hgl := (new_ne_cur (unhide HC3))
  have HGx := hide (grownBy_trans (grown_alloc (unhide HG3) _) hg)
  have HOx := hide (((unhide HO3).alloc (.cells (cI [0, 500, 700, 1000000, 1000001, -1]).toArray 3)).gr hg hgA)
  have HCx := hide hC
  obtain ⟨z9, hh, z1, z2, z3, z4, z5, z6⟩ := quo11 4 6 (by decide) (by decide) rfl y0 y1
  have z8 : (hh : Int) ≤ 6 := z4
  have z0 : y9 / 11 = z9 := by rw [← z1, Int.tdiv_eq_ediv_of_nonneg y0]
  have z7 : 4 + z9 = (hh : Int) := by rw [← z3, IntWalk.i64_in _ (by omega)]
  clear hC hg HC3 HG3 HO3 y0 y1 z2 z3 z4
  go_wp2_with fail
  refine (among_some w.heap.size n c (0 + 300 + 4 + 2 + 2 + 2) w3.heap.size A xs wp [0, 500, 700, 1000000, 1000001, -1] hh 6 (unhide HL) hgl z6 z5 (by simp) (unhide HCx) (by omega) (by omega)).mono ?_
  rintro e w4 ⟨z, rfl, _, hC, hg⟩
  have HG4 := hide (grownBy_trans (unhide HGx) hg)
  have HC4 := hide hC
  have HO4 := hide ((unhide HOx).gr hg hgA)
  clear hC hg HCx HGx HOx HL hgl z1 z8 z0 z7 z5 z6
  go_wp2_with fail
  refine bodyPost_ret (results_tmp4 rfl _ _ _) rfl ?_
  exact ⟨A', n', c', ys, x, y, z, rfl, OwnS.less (unhide HO4) (Nat.le_of_lt hgA), hn', unhide HN, below_cur (unhide HBA) (unhide HG4) (Nat.le_refl _)⟩

end Go.Proofs.Ytihkocplgciifaa
