/- Chapter 3, the walks: the places and stations that the reference draws. (By gen_drawSt.py.) -/
import Derived.Test.YtihkocplgciifaaProg
import Derived.Test.YtihkocplgciifaaCurT
import Derived.Test.YtihkocplgciifaaNear
import Derived.Laws.IdiomStrings
namespace Go.Proofs.Ytihkocplgciifaa
open Go.RowKit

theorem rBig_any (A : Option Addr) (n c : Nat) (w : World) : Calls Try.prog 48 #[.slice A n c] w fun e w' => e = .returned (.bool (decide (65536 < n))) ∧ w = w' := by
  by_cases h : 65536 < n
  · have h1 : (65536 : Int) < (n : Int) := by omega
    go_enter Try.func48, Try.ntmps48
    go_wp2_with fail
    go_ret
    exact ⟨by simp [h], rfl⟩
  · have h1 : ¬ (65536 : Int) < (n : Int) := by omega
    go_enter Try.func48, Try.ntmps48
    go_wp2_with fail
    go_ret
    exact ⟨by simp [h], rfl⟩
theorem quo11 (k : Int) (m : Nat) (h0 : 1 ≤ k) (h1 : k ≤ 20) (hm : k + 2 = (m : Int)) {y : Int} (y0 : 0 ≤ y) (y1 : y < 24) : ∃ (z : Int) (h : Nat), y.tdiv 11 = z ∧ IntKind.i64.wrap z = z ∧ IntKind.i64.wrap (k + z) = (h : Int) ∧ (h : Int) ≤ (m : Int) ∧ h ≤ m ∧ 1 ≤ h := by
  have e : y.tdiv 11 = y / 11 := Int.tdiv_eq_ediv_of_nonneg y0
  refine ⟨y / 11, (k + y / 11).toNat, e, ?_, ?_, by omega, by omega, by omega⟩
  · rw [IntWalk.i64_in _ (by omega)]
  · rw [IntWalk.i64_in _ (by omega)]; omega
theorem quo14 (k : Int) (m : Nat) (h0 : 1 ≤ k) (h1 : k ≤ 20) (hm : k + 2 = (m : Int)) {y : Int} (y0 : 0 ≤ y) (y1 : y < 30) : ∃ (z : Int) (h : Nat), y.tdiv 14 = z ∧ IntKind.i64.wrap z = z ∧ IntKind.i64.wrap (k + z) = (h : Int) ∧ (h : Int) ≤ (m : Int) ∧ h ≤ m ∧ 1 ≤ h := by
  have e : y.tdiv 14 = y / 14 := Int.tdiv_eq_ediv_of_nonneg y0
  refine ⟨y / 14, (k + y / 14).toNat, e, ?_, ?_, by omega, by omega, by omega⟩
  · rw [IntWalk.i64_in _ (by omega)]
  · rw [IntWalk.i64_in _ (by omega)]; omega
/-- eight stores into a block of eight -/
theorem Whl.store8 {w : World} {g : Nat} {T : TypeId} {z0 z1 z2 z3 z4 z5 z6 z7 : Value} (h : Whl w g T #[z0, z1, z2, z3, z4, z5, z6, z7]) (v0 v1 v2 v3 v4 v5 v6 v7 : Value) :
    Whl ((((((((w.setCell ⟨g, 0, none⟩ v0).setCell ⟨g, 1, none⟩ v1).setCell ⟨g, 2, none⟩ v2).setCell ⟨g, 3, none⟩ v3).setCell ⟨g, 4, none⟩ v4).setCell ⟨g, 5, none⟩ v5).setCell ⟨g, 6, none⟩ v6).setCell ⟨g, 7, none⟩ v7) g T #[v0, v1, v2, v3, v4, v5, v6, v7] := by
  have h9 := (((((((h.store 0 v0).store 1 v1).store 2 v2).store 3 v3).store 4 v4).store 5 v5).store 6 v6).store 7 v7
  simpa using h9
/-- a place comes back and the cursor -/
def RetCP (w : World) (g : Nat) (A : Option Addr) (n c : Nat) (xs : List Int) (b : Nat) (e : Ending) (w' : World) : Prop :=
  ∃ x y : Int, e = .returned (.tuple #[.int .i64 x, .int .i64 y]) ∧ Cur w' g A n c xs b ∧ w.grownBy w' (some g)
/-- a station comes back and the cursor -/
def RetCS (w : World) (g : Nat) (A : Option Addr) (n c : Nat) (xs : List Int) (b : Nat) (e : Ending) (w' : World) : Prop :=
  ∃ s : St, e = .returned (.agg #[.int .i64 s.id, .string s.nm, .int .i64 s.x, .int .i64 s.y, .int .i64 s.gn, .int .i64 s.lw, .int .i64 s.hg, .int .i64 s.ut]) ∧ s.nm.size ≤ 11 ∧ Cur w' g A n c xs b ∧ w.grownBy w' (some g)
/-- stations come back and the cursor -/
def RetCL (w : World) (g : Nat) (A : Option Addr) (n c : Nat) (xs : List Int) (b : Nat) (e : Ending) (w' : World) : Prop :=
  ∃ (A' : Option Addr) (n' c' : Nat) (ys : List St), e = .returned (.slice A' n' c') ∧ OwnS w' w.heap.size A' n' c' ys ∧ n' ≤ 11 ∧ (∀ x ∈ ys, x.nm.size ≤ 11) ∧ Cur w' g A n c xs b ∧ w.grownBy w' (some g)

set_option maxHeartbeats 2000000 in
set_option maxRecDepth 100000 in
theorem place_any (g n c b : Nat) (A : Option Addr) (xs : List Int) (w : World) (h : Cur w g A n c xs b) (hn : n ≤ 1048576) (hb : b ≤ 1000000) :
    Calls Try.prog 104 #[.pointer (some ⟨g, 0, none⟩)] w (RetCP w g A n c xs (b + 8)) := by
  have HC0 := hide h
  have HG0 := hide (World.grownBy.refl w (some g))
  clear h
  go_enter Try.func104, Try.ntmps104
  go_wp2_with fail
  refine (pick_any g n c (b) A xs 30 _ ((unhide HC0).alloc _) (by omega) (by omega) (by omega) (by omega)).mono ?_
  rintro e wa ⟨y, rfl, ⟨y0, y1⟩, hC, hg⟩
  have HL := hide (Whl.gr (Whl.here w 3 (cI [0, 3, 10, 50, 999, -1, 1000]).toArray) hg (new_ne_cur (unhide HC0)).symm)
  have hgl := (new_ne_cur (unhide HC0))
  have HGx := hide (grownBy_trans (grown_alloc (unhide HG0) _) hg)
  have HCx := hide hC
  obtain ⟨z, hh, z1, z2, z3, z4, z5, z6⟩ := quo14 5 7 (by decide) (by decide) rfl y0 y1
  have z8 : (hh : Int) ≤ 7 := z4
  have z9 : y / 14 = z := by rw [← z1, Int.tdiv_eq_ediv_of_nonneg y0]
  have z10 : 5 + z = (hh : Int) := by rw [← z3, IntWalk.i64_in _ (by omega)]
  clear hC hg HC0 HG0 y0 y1 z2 z3 z4
  go_wp2_with fail
  refine (among_some g n c (b + 2) w.heap.size A xs wa [0, 3, 10, 50, 999, -1, 1000] hh 7 (unhide HL) hgl z6 z5 (by simp) (unhide HCx) (by omega) (by omega)).mono ?_
  rintro e w1 ⟨x, rfl, _, hC, hg⟩
  have HG1 := hide (grownBy_trans (unhide HGx) hg)
  have HC1 := hide hC
  clear hC hg HCx HGx HL hgl z1 z8 z9 z10 z5 z6
  go_wp2_with fail
  refine (pick_any g n c (b + 2 + 2) A xs 30 _ ((unhide HC1).alloc _) (by omega) (by omega) (by omega) (by omega)).mono ?_
  rintro e wb ⟨y, rfl, ⟨y0, y1⟩, hC, hg⟩
  have HL := hide (Whl.gr (Whl.here w1 3 (cI [0, 4, 10, 50, 999, -1, 1000]).toArray) hg (new_ne_cur (unhide HC1)).symm)
  have hgl := (new_ne_cur (unhide HC1))
  have HGx := hide (grownBy_trans (grown_alloc (unhide HG1) _) hg)
  have HCx := hide hC
  obtain ⟨z, hh, z1, z2, z3, z4, z5, z6⟩ := quo14 5 7 (by decide) (by decide) rfl y0 y1
  have z8 : (hh : Int) ≤ 7 := z4
  have z9 : y / 14 = z := by rw [← z1, Int.tdiv_eq_ediv_of_nonneg y0]
  have z10 : 5 + z = (hh : Int) := by rw [← z3, IntWalk.i64_in _ (by omega)]
  clear hC hg HC1 HG1 y0 y1 z2 z3 z4
  go_wp2_with fail
  refine (among_some g n c (b + 2 + 2 + 2) w1.heap.size A xs wb [0, 4, 10, 50, 999, -1, 1000] hh 7 (unhide HL) hgl z6 z5 (by simp) (unhide HCx) (by omega) (by omega)).mono ?_
  rintro e w2 ⟨y, rfl, _, hC, hg⟩
  have HG2 := hide (grownBy_trans (unhide HGx) hg)
  have HC2 := hide hC
  clear hC hg HCx HGx HL hgl z1 z8 z9 z10 z5 z6
  go_wp2_with fail
  go_ret2
  exact ⟨x, y, rfl, unhide HC2, unhide HG2⟩
set_option maxHeartbeats 8000000 in
set_option maxRecDepth 100000 in
theorem station_any (g n c b : Nat) (A : Option Addr) (xs : List Int) (id : Int) (w : World) (h : Cur w g A n c xs b) (hn : n ≤ 1048576) (hb : b ≤ 900000) :
    Calls Try.prog 108 #[.pointer (some ⟨g, 0, none⟩), .int .i64 id] w (RetCS w g A n c xs (b + 24)) := by
  have hgw := h.lt
  have HZ0 := hide (Whl.here w 26 #[.int .i64 0, .string ⟨#[]⟩, .int .i64 0, .int .i64 0, .int .i64 0, .int .i64 0, .int .i64 0, .int .i64 0])
  have HC0 := hide (h.alloc (.cells #[.int .i64 0, .string ⟨#[]⟩, .int .i64 0, .int .i64 0, .int .i64 0, .int .i64 0, .int .i64 0, .int .i64 0] 26))
  have HG0 := hide (grown_alloc (World.grownBy.refl w (some g)) (.cells #[.int .i64 0, .string ⟨#[]⟩, .int .i64 0, .int .i64 0, .int .i64 0, .int .i64 0, .int .i64 0, .int .i64 0] 26))
  clear h
  go_enter Try.func108, Try.ntmps108
  go_wp2_with fail
  have hs0 : w.heap.size < (w.alloc (.cells #[.int .i64 0, .string ⟨#[]⟩, .int .i64 0, .int .i64 0, .int .i64 0, .int .i64 0, .int .i64 0, .int .i64 0] 26)).heap.size := by simp
  have hq0 : w.heap.size + 1 = (w.alloc (.cells #[.int .i64 0, .string ⟨#[]⟩, .int .i64 0, .int .i64 0, .int .i64 0, .int .i64 0, .int .i64 0, .int .i64 0] 26)).heap.size := by simp
  generalize w.alloc (.cells #[.int .i64 0, .string ⟨#[]⟩, .int .i64 0, .int .i64 0, .int .i64 0, .int .i64 0, .int .i64 0, .int .i64 0] 26) = w0 at *
  refine (of_lit g n c b _ A xs w0 hq0 [⟨#[97, 108, 109]⟩, ⟨#[98, 101, 114, 103]⟩, ⟨#[100, 111, 114, 102]⟩, ⟨#[107, 108, 97, 109, 109]⟩, ⟨#[115, 101, 101]⟩, ⟨#[116, 117, 114, 109]⟩] 6 _ (fun y => y.size ≤ 11) rfl rfl (by omega) (by omega) (by decide) (unhide HC0) (by omega) (by omega)).mono ?_
  rintro e w1 ⟨nm, rfl, hnm, hC, hg⟩
  have HC1 := hide hC
  have HG1 := hide (grownBy_trans (unhide HG0) hg)
  have HZ1 := hide ((unhide HZ0).gr hg (by omega))
  clear hC hg HC0 HG0 HZ0 hs0 hq0
  go_wp2_with fail
  refine (among_lit g n c (b + 2) _ A xs w1 rfl [1, 6, 1000, 10000] 4 _ (fun _ => True) rfl rfl (by omega) (by omega) (by simp) (unhide HC1) (by omega) (by omega)).mono ?_
  rintro e w2 ⟨gn, rfl, _, hC, hgr⟩
  have HC2 := hide hC
  have HG2 := hide (grownBy_trans (unhide HG1) hgr)
  have HZ2 := hide ((unhide HZ1).gr hgr (by omega))
  clear hC hgr HC1 HG1 HZ1
  go_wp2_with fail
  refine (among_lit g n c (b + 2 + 2) _ A xs w2 rfl [1, 5, 100, 2000] 4 _ (fun _ => True) rfl rfl (by omega) (by omega) (by simp) (unhide HC2) (by omega) (by omega)).mono ?_
  rintro e w3 ⟨lw, rfl, _, hC, hgr⟩
  have HC3 := hide hC
  have HG3 := hide (grownBy_trans (unhide HG2) hgr)
  have HZ3 := hide ((unhide HZ2).gr hgr (by omega))
  clear hC hgr HC2 HG2 HZ2
  go_wp2_with fail
  refine (among_lit g n c (b + 2 + 2 + 2) _ A xs w3 rfl [2, 1500, 2500, 5000] 4 _ (fun _ => True) rfl rfl (by omega) (by omega) (by simp) (unhide HC3) (by omega) (by omega)).mono ?_
  rintro e w4 ⟨hg, rfl, _, hC, hgr⟩
  have HC4 := hide hC
  have HG4 := hide (grownBy_trans (unhide HG3) hgr)
  have HZ4 := hide ((unhide HZ3).gr hgr (by omega))
  clear hC hgr HC3 HG3 HZ3
  go_wp2_with fail
  refine (among_lit g n c (b + 2 + 2 + 2 + 2) _ A xs w4 rfl [0, 500, 500, 1000000] 4 _ (fun _ => True) rfl rfl (by omega) (by omega) (by simp) (unhide HC4) (by omega) (by omega)).mono ?_
  rintro e w5 ⟨ut, rfl, _, hC, hgr⟩
  have HC5 := hide hC
  have HG5 := hide (grownBy_trans (unhide HG4) hgr)
  have HZ5 := hide ((unhide HZ4).gr hgr (by omega))
  clear hC hgr HC4 HG4 HZ4
  have hgs := (unhide HC5).lt
  have hzs := (unhide HZ5).lt
  have HC6 := hide ((unhide HC5).alloc (.cells #[.int .i64 id, .string nm, .int .i64 0, .int .i64 0, .int .i64 gn, .int .i64 lw, .int .i64 hg, .int .i64 ut] 26))
  have HG6 := hide (grown_alloc (unhide HG5) (.cells #[.int .i64 id, .string nm, .int .i64 0, .int .i64 0, .int .i64 gn, .int .i64 lw, .int .i64 hg, .int .i64 ut] 26))
  have HZ6 := hide ((unhide HZ5).alloc (.cells #[.int .i64 id, .string nm, .int .i64 0, .int .i64 0, .int .i64 gn, .int .i64 lw, .int .i64 hg, .int .i64 ut] 26))
  have HS6 := hide (Whl.here w5 26 #[.int .i64 id, .string nm, .int .i64 0, .int .i64 0, .int .i64 gn, .int .i64 lw, .int .i64 hg, .int .i64 ut])
  go_wp2_with fail
  generalize w5.heap.size = gs at *
  generalize w5.alloc (.cells #[.int .i64 id, .string nm, .int .i64 0, .int .i64 0, .int .i64 gn, .int .i64 lw, .int .i64 hg, .int .i64 ut] 26) = w6 at *
  refine (place_any g n c (b + 2 + 2 + 2 + 2 + 2) A xs w6 (unhide HC6) (by omega) (by omega)).mono ?_
  rintro e w7 ⟨px, py, rfl, hC, hgr⟩
  have HG7 := hide (grownBy_trans (unhide HG6) hgr)
  have HZ7 := hide ((unhide HZ6).gr hgr (by omega))
  have HS7 := hide ((unhide HS6).gr hgr (by omega))
  have HC7 := hide hC
  clear hC hgr HC5 HG5 HZ5 HC6 HG6 HZ6 HS6
  have k2 : w7.cell? ⟨gs, 2, none⟩ = some (.int .i64 0) := (unhide HS7).cell 2
  have k3 : w7.cell? ⟨gs, 3, none⟩ = some (.int .i64 0) := (unhide HS7).cell 3
  have f2 : w7.frozen? ⟨gs, 2, none⟩ = false := (unhide HS7).frozen 2
  have f3 : w7.frozen? ⟨gs, 3, none⟩ = false := (unhide HS7).frozen 3
  go_wp2_with fail
  have HS8 : Hid (Whl ((w7.setCell ⟨gs, 2, none⟩ (.int .i64 px)).setCell ⟨gs, 3, none⟩ (.int .i64 py)) gs 26 #[.int .i64 id, .string nm, .int .i64 px, .int .i64 py, .int .i64 gn, .int .i64 lw, .int .i64 hg, .int .i64 ut]) := hide (((unhide HS7).store 2 _).store 3 _)
  have HC8 : Hid (Cur ((w7.setCell ⟨gs, 2, none⟩ (.int .i64 px)).setCell ⟨gs, 3, none⟩ (.int .i64 py)) g A n c xs (b + 2 + 2 + 2 + 2 + 2 + 8)) := hide (((unhide HC7).set (p := ⟨gs, 2, none⟩) hgs _).set (p := ⟨gs, 3, none⟩) hgs _)
  have HG8 : Hid (w.grownBy ((w7.setCell ⟨gs, 2, none⟩ (.int .i64 px)).setCell ⟨gs, 3, none⟩ (.int .i64 py)) (some g)) := hide (grown_set' (grown_set' (unhide HG7) (p := ⟨gs, 2, none⟩) (Nat.le_of_lt hzs) _) (p := ⟨gs, 3, none⟩) (Nat.le_of_lt hzs) _)
  have HZ8 : Hid (Whl ((w7.setCell ⟨gs, 2, none⟩ (.int .i64 px)).setCell ⟨gs, 3, none⟩ (.int .i64 py)) w.heap.size 26 _) := hide (Whl.far (Whl.far (unhide HZ7) (p := ⟨gs, 2, none⟩) (by show w.heap.size ≠ gs; omega) _) (p := ⟨gs, 3, none⟩) (by show w.heap.size ≠ gs; omega) _)
  clear k2 k3 f2 f3 HG7 HZ7 HS7 HC7
  generalize (w7.setCell ⟨gs, 2, none⟩ (.int .i64 px)).setCell ⟨gs, 3, none⟩ (.int .i64 py) = w8 at *
  refine (pick_any g n c (b + 2 + 2 + 2 + 2 + 2 + 8) A xs 80 w8 (unhide HC8) (by omega) (by omega) (by omega) (by omega)).mono ?_
  rintro e w9 ⟨q, rfl, ⟨q0, q1⟩, hC, hgr⟩
  have HG9 := hide (grownBy_trans (unhide HG8) hgr)
  have HZ9 := hide ((unhide HZ8).gr hgr (by omega))
  have HS9 := hide ((unhide HS8).gr hgr (by omega))
  have HC9 := hide hC
  clear hC hgr HC8 HG8 HZ8 HS8
  rcases (show q = 0 ∨ q = 1 ∨ q = 2 ∨ q = 3 ∨ q = 4 ∨ q = 5 ∨ 5 < q by omega) with rfl | rfl | rfl | rfl | rfl | rfl | hq
  · skip
    go_wp2_with fail
    refine (among_lit g n c (b + 2 + 2 + 2 + 2 + 2 + 8 + 2) _ A xs w9 rfl [0, 99, 100] 3 _ (fun _ => True) rfl rfl (by omega) (by omega) (by simp) (unhide HC9) (by omega) (by omega)).mono ?_
    rintro e w10 ⟨v, rfl, _, hC, hgr⟩
    have HG10 := hide (grownBy_trans (unhide HG9) hgr)
    have HZ10 := hide ((unhide HZ9).gr hgr (by omega))
    have HS10 := hide ((unhide HS9).gr hgr (by omega))
    have HC10 := hide hC
    clear hC hgr HC9 HG9 HZ9 HS9
    have u0 := (unhide HS10).cell 0
    have u1 : w10.frozen? ⟨gs, 0, none⟩ = false := (unhide HS10).frozen 0
    go_upto_region 16 with (fail)
    clear u0 u1
    have HS11 : Hid (Whl (w10.setCell ⟨gs, 0, none⟩ (.int .i64 v)) gs 26 #[.int .i64 v, .string nm, .int .i64 px, .int .i64 py, .int .i64 gn, .int .i64 lw, .int .i64 hg, .int .i64 ut]) := hide ((unhide HS10).store 0 _)
    have HC11 : Hid (Cur (w10.setCell ⟨gs, 0, none⟩ (.int .i64 v)) g A n c xs (b + 2 + 2 + 2 + 2 + 2 + 8 + 2 + 2)) := hide ((unhide HC10).set (p := ⟨gs, 0, none⟩) hgs _)
    have HG11 : Hid (w.grownBy (w10.setCell ⟨gs, 0, none⟩ (.int .i64 v)) (some g)) := hide (grown_set' (unhide HG10) (p := ⟨gs, 0, none⟩) (Nat.le_of_lt hzs) _)
    have HZ11 : Hid (Whl (w10.setCell ⟨gs, 0, none⟩ (.int .i64 v)) w.heap.size 26 _) := hide (Whl.far (unhide HZ10) (p := ⟨gs, 0, none⟩) (by show w.heap.size ≠ gs; omega) _)
    clear HS10 HC10 HG10 HZ10
    generalize (w10.setCell ⟨gs, 0, none⟩ (.int .i64 v)) = w11 at *
    have k0 : w11.cell? ⟨gs, 0, none⟩ = some (.int .i64 v) := (unhide HS11).cell 0
    have k1 : w11.cell? ⟨gs, 1, none⟩ = some (.string nm) := (unhide HS11).cell 1
    have k2 : w11.cell? ⟨gs, 2, none⟩ = some (.int .i64 px) := (unhide HS11).cell 2
    have k3 : w11.cell? ⟨gs, 3, none⟩ = some (.int .i64 py) := (unhide HS11).cell 3
    have k4 : w11.cell? ⟨gs, 4, none⟩ = some (.int .i64 gn) := (unhide HS11).cell 4
    have k5 : w11.cell? ⟨gs, 5, none⟩ = some (.int .i64 lw) := (unhide HS11).cell 5
    have k6 : w11.cell? ⟨gs, 6, none⟩ = some (.int .i64 hg) := (unhide HS11).cell 6
    have k7 : w11.cell? ⟨gs, 7, none⟩ = some (.int .i64 ut) := (unhide HS11).cell 7
    have m0 := (unhide HZ11).cell 0
    have n0 : w11.frozen? ⟨w.heap.size, 0, none⟩ = false := (unhide HZ11).frozen 0
    have m1 := (unhide HZ11).cell 1
    have n1 : w11.frozen? ⟨w.heap.size, 1, none⟩ = false := (unhide HZ11).frozen 1
    have m2 := (unhide HZ11).cell 2
    have n2 : w11.frozen? ⟨w.heap.size, 2, none⟩ = false := (unhide HZ11).frozen 2
    have m3 := (unhide HZ11).cell 3
    have n3 : w11.frozen? ⟨w.heap.size, 3, none⟩ = false := (unhide HZ11).frozen 3
    have m4 := (unhide HZ11).cell 4
    have n4 : w11.frozen? ⟨w.heap.size, 4, none⟩ = false := (unhide HZ11).frozen 4
    have m5 := (unhide HZ11).cell 5
    have n5 : w11.frozen? ⟨w.heap.size, 5, none⟩ = false := (unhide HZ11).frozen 5
    have m6 := (unhide HZ11).cell 6
    have n6 : w11.frozen? ⟨w.heap.size, 6, none⟩ = false := (unhide HZ11).frozen 6
    have m7 := (unhide HZ11).cell 7
    have n7 : w11.frozen? ⟨w.heap.size, 7, none⟩ = false := (unhide HZ11).frozen 7
    go_wp2_with fail
    have HY : Hid (Whl ((((((((w11.setCell ⟨w.heap.size, 0, none⟩ (.int .i64 v)).setCell ⟨w.heap.size, 1, none⟩ (.string nm)).setCell ⟨w.heap.size, 2, none⟩ (.int .i64 px)).setCell ⟨w.heap.size, 3, none⟩ (.int .i64 py)).setCell ⟨w.heap.size, 4, none⟩ (.int .i64 gn)).setCell ⟨w.heap.size, 5, none⟩ (.int .i64 lw)).setCell ⟨w.heap.size, 6, none⟩ (.int .i64 hg)).setCell ⟨w.heap.size, 7, none⟩ (.int .i64 ut)) w.heap.size 26 #[.int .i64 v, .string nm, .int .i64 px, .int .i64 py, .int .i64 gn, .int .i64 lw, .int .i64 hg, .int .i64 ut]) := hide ((unhide HZ11).store8 _ _ _ _ _ _ _ _)
    have HYC : Hid (Cur ((((((((w11.setCell ⟨w.heap.size, 0, none⟩ (.int .i64 v)).setCell ⟨w.heap.size, 1, none⟩ (.string nm)).setCell ⟨w.heap.size, 2, none⟩ (.int .i64 px)).setCell ⟨w.heap.size, 3, none⟩ (.int .i64 py)).setCell ⟨w.heap.size, 4, none⟩ (.int .i64 gn)).setCell ⟨w.heap.size, 5, none⟩ (.int .i64 lw)).setCell ⟨w.heap.size, 6, none⟩ (.int .i64 hg)).setCell ⟨w.heap.size, 7, none⟩ (.int .i64 ut)) g A n c xs (b + 2 + 2 + 2 + 2 + 2 + 8 + 2 + 2)) := hide (((((((((unhide HC11).set (p := ⟨w.heap.size, 0, none⟩) hgw _).set (p := ⟨w.heap.size, 1, none⟩) hgw _).set (p := ⟨w.heap.size, 2, none⟩) hgw _).set (p := ⟨w.heap.size, 3, none⟩) hgw _).set (p := ⟨w.heap.size, 4, none⟩) hgw _).set (p := ⟨w.heap.size, 5, none⟩) hgw _).set (p := ⟨w.heap.size, 6, none⟩) hgw _).set (p := ⟨w.heap.size, 7, none⟩) hgw _)
    have HYG : Hid (w.grownBy ((((((((w11.setCell ⟨w.heap.size, 0, none⟩ (.int .i64 v)).setCell ⟨w.heap.size, 1, none⟩ (.string nm)).setCell ⟨w.heap.size, 2, none⟩ (.int .i64 px)).setCell ⟨w.heap.size, 3, none⟩ (.int .i64 py)).setCell ⟨w.heap.size, 4, none⟩ (.int .i64 gn)).setCell ⟨w.heap.size, 5, none⟩ (.int .i64 lw)).setCell ⟨w.heap.size, 6, none⟩ (.int .i64 hg)).setCell ⟨w.heap.size, 7, none⟩ (.int .i64 ut)) (some g)) := hide (grown_set' (grown_set' (grown_set' (grown_set' (grown_set' (grown_set' (grown_set' (grown_set' (unhide HG11) (p := ⟨w.heap.size, 0, none⟩) (Nat.le_refl _) _) (p := ⟨w.heap.size, 1, none⟩) (Nat.le_refl _) _) (p := ⟨w.heap.size, 2, none⟩) (Nat.le_refl _) _) (p := ⟨w.heap.size, 3, none⟩) (Nat.le_refl _) _) (p := ⟨w.heap.size, 4, none⟩) (Nat.le_refl _) _) (p := ⟨w.heap.size, 5, none⟩) (Nat.le_refl _) _) (p := ⟨w.heap.size, 6, none⟩) (Nat.le_refl _) _) (p := ⟨w.heap.size, 7, none⟩) (Nat.le_refl _) _)
    clear k0 m0 n0 k1 m1 n1 k2 m2 n2 k3 m3 n3 k4 m4 n4 k5 m5 n5 k6 m6 n6 k7 m7 n7 HS11 HC11 HG11 HZ11
    generalize ((((((((w11.setCell ⟨w.heap.size, 0, none⟩ (.int .i64 v)).setCell ⟨w.heap.size, 1, none⟩ (.string nm)).setCell ⟨w.heap.size, 2, none⟩ (.int .i64 px)).setCell ⟨w.heap.size, 3, none⟩ (.int .i64 py)).setCell ⟨w.heap.size, 4, none⟩ (.int .i64 gn)).setCell ⟨w.heap.size, 5, none⟩ (.int .i64 lw)).setCell ⟨w.heap.size, 6, none⟩ (.int .i64 hg)).setCell ⟨w.heap.size, 7, none⟩ (.int .i64 ut)) = wz at *
    have y0 : wz.cell? ⟨w.heap.size, 0, none⟩ = some (.int .i64 v) := (unhide HY).cell 0
    have y1 : wz.cell? ⟨w.heap.size, 1, none⟩ = some (.string nm) := (unhide HY).cell 1
    have y2 : wz.cell? ⟨w.heap.size, 2, none⟩ = some (.int .i64 px) := (unhide HY).cell 2
    have y3 : wz.cell? ⟨w.heap.size, 3, none⟩ = some (.int .i64 py) := (unhide HY).cell 3
    have y4 : wz.cell? ⟨w.heap.size, 4, none⟩ = some (.int .i64 gn) := (unhide HY).cell 4
    have y5 : wz.cell? ⟨w.heap.size, 5, none⟩ = some (.int .i64 lw) := (unhide HY).cell 5
    have y6 : wz.cell? ⟨w.heap.size, 6, none⟩ = some (.int .i64 hg) := (unhide HY).cell 6
    have y7 : wz.cell? ⟨w.heap.size, 7, none⟩ = some (.int .i64 ut) := (unhide HY).cell 7
    have x0 : wz.frozen? ⟨w.heap.size, 0, none⟩ = false := (unhide HY).frozen 0
    have x1 : wz.frozen? ⟨w.heap.size, 1, none⟩ = false := (unhide HY).frozen 1
    have x2 : wz.frozen? ⟨w.heap.size, 2, none⟩ = false := (unhide HY).frozen 2
    have x3 : wz.frozen? ⟨w.heap.size, 3, none⟩ = false := (unhide HY).frozen 3
    have x4 : wz.frozen? ⟨w.heap.size, 4, none⟩ = false := (unhide HY).frozen 4
    have x5 : wz.frozen? ⟨w.heap.size, 5, none⟩ = false := (unhide HY).frozen 5
    have x6 : wz.frozen? ⟨w.heap.size, 6, none⟩ = false := (unhide HY).frozen 6
    have x7 : wz.frozen? ⟨w.heap.size, 7, none⟩ = false := (unhide HY).frozen 7
    go_wp2_with fail
    refine bodyPost_ret (v := .agg #[.int .i64 v, .string nm, .int .i64 px, .int .i64 py, .int .i64 gn, .int .i64 lw, .int .i64 hg, .int .i64 ut]) (by simp [results, Try.results108, go_sem, y0, x0, y1, x1, y2, x2, y3, x3, y4, x4, y5, x5, y6, x6, y7, x7]) rfl ?_
    exact ⟨⟨v, nm, px, py, gn, lw, hg, ut⟩, rfl, hnm, (unhide HYC).more (by omega), unhide HYG⟩
  · skip
    go_wp2_with fail
    refine (of_lit g n c (b + 2 + 2 + 2 + 2 + 2 + 8 + 2) _ A xs w9 rfl [⟨#[]⟩, ⟨#[65]⟩, ⟨#[97, 98, 99, 100, 101, 102, 103, 104, 105, 106, 107]⟩] 3 _ (fun y => y.size ≤ 11) rfl rfl (by omega) (by omega) (by decide) (unhide HC9) (by omega) (by omega)).mono ?_
    rintro e w10 ⟨v, rfl, hv, hC, hgr⟩
    have HG10 := hide (grownBy_trans (unhide HG9) hgr)
    have HZ10 := hide ((unhide HZ9).gr hgr (by omega))
    have HS10 := hide ((unhide HS9).gr hgr (by omega))
    have HC10 := hide hC
    clear hC hgr HC9 HG9 HZ9 HS9
    have u0 := (unhide HS10).cell 1
    have u1 : w10.frozen? ⟨gs, 1, none⟩ = false := (unhide HS10).frozen 1
    go_upto_region 16 with (fail)
    clear u0 u1
    have HS11 : Hid (Whl (w10.setCell ⟨gs, 1, none⟩ (.string v)) gs 26 #[.int .i64 id, .string v, .int .i64 px, .int .i64 py, .int .i64 gn, .int .i64 lw, .int .i64 hg, .int .i64 ut]) := hide ((unhide HS10).store 1 _)
    have HC11 : Hid (Cur (w10.setCell ⟨gs, 1, none⟩ (.string v)) g A n c xs (b + 2 + 2 + 2 + 2 + 2 + 8 + 2 + 2)) := hide ((unhide HC10).set (p := ⟨gs, 1, none⟩) hgs _)
    have HG11 : Hid (w.grownBy (w10.setCell ⟨gs, 1, none⟩ (.string v)) (some g)) := hide (grown_set' (unhide HG10) (p := ⟨gs, 1, none⟩) (Nat.le_of_lt hzs) _)
    have HZ11 : Hid (Whl (w10.setCell ⟨gs, 1, none⟩ (.string v)) w.heap.size 26 _) := hide (Whl.far (unhide HZ10) (p := ⟨gs, 1, none⟩) (by show w.heap.size ≠ gs; omega) _)
    clear HS10 HC10 HG10 HZ10
    generalize (w10.setCell ⟨gs, 1, none⟩ (.string v)) = w11 at *
    have k0 : w11.cell? ⟨gs, 0, none⟩ = some (.int .i64 id) := (unhide HS11).cell 0
    have k1 : w11.cell? ⟨gs, 1, none⟩ = some (.string v) := (unhide HS11).cell 1
    have k2 : w11.cell? ⟨gs, 2, none⟩ = some (.int .i64 px) := (unhide HS11).cell 2
    have k3 : w11.cell? ⟨gs, 3, none⟩ = some (.int .i64 py) := (unhide HS11).cell 3
    have k4 : w11.cell? ⟨gs, 4, none⟩ = some (.int .i64 gn) := (unhide HS11).cell 4
    have k5 : w11.cell? ⟨gs, 5, none⟩ = some (.int .i64 lw) := (unhide HS11).cell 5
    have k6 : w11.cell? ⟨gs, 6, none⟩ = some (.int .i64 hg) := (unhide HS11).cell 6
    have k7 : w11.cell? ⟨gs, 7, none⟩ = some (.int .i64 ut) := (unhide HS11).cell 7
    have m0 := (unhide HZ11).cell 0
    have n0 : w11.frozen? ⟨w.heap.size, 0, none⟩ = false := (unhide HZ11).frozen 0
    have m1 := (unhide HZ11).cell 1
    have n1 : w11.frozen? ⟨w.heap.size, 1, none⟩ = false := (unhide HZ11).frozen 1
    have m2 := (unhide HZ11).cell 2
    have n2 : w11.frozen? ⟨w.heap.size, 2, none⟩ = false := (unhide HZ11).frozen 2
    have m3 := (unhide HZ11).cell 3
    have n3 : w11.frozen? ⟨w.heap.size, 3, none⟩ = false := (unhide HZ11).frozen 3
    have m4 := (unhide HZ11).cell 4
    have n4 : w11.frozen? ⟨w.heap.size, 4, none⟩ = false := (unhide HZ11).frozen 4
    have m5 := (unhide HZ11).cell 5
    have n5 : w11.frozen? ⟨w.heap.size, 5, none⟩ = false := (unhide HZ11).frozen 5
    have m6 := (unhide HZ11).cell 6
    have n6 : w11.frozen? ⟨w.heap.size, 6, none⟩ = false := (unhide HZ11).frozen 6
    have m7 := (unhide HZ11).cell 7
    have n7 : w11.frozen? ⟨w.heap.size, 7, none⟩ = false := (unhide HZ11).frozen 7
    go_wp2_with fail
    have HY : Hid (Whl ((((((((w11.setCell ⟨w.heap.size, 0, none⟩ (.int .i64 id)).setCell ⟨w.heap.size, 1, none⟩ (.string v)).setCell ⟨w.heap.size, 2, none⟩ (.int .i64 px)).setCell ⟨w.heap.size, 3, none⟩ (.int .i64 py)).setCell ⟨w.heap.size, 4, none⟩ (.int .i64 gn)).setCell ⟨w.heap.size, 5, none⟩ (.int .i64 lw)).setCell ⟨w.heap.size, 6, none⟩ (.int .i64 hg)).setCell ⟨w.heap.size, 7, none⟩ (.int .i64 ut)) w.heap.size 26 #[.int .i64 id, .string v, .int .i64 px, .int .i64 py, .int .i64 gn, .int .i64 lw, .int .i64 hg, .int .i64 ut]) := hide ((unhide HZ11).store8 _ _ _ _ _ _ _ _)
    have HYC : Hid (Cur ((((((((w11.setCell ⟨w.heap.size, 0, none⟩ (.int .i64 id)).setCell ⟨w.heap.size, 1, none⟩ (.string v)).setCell ⟨w.heap.size, 2, none⟩ (.int .i64 px)).setCell ⟨w.heap.size, 3, none⟩ (.int .i64 py)).setCell ⟨w.heap.size, 4, none⟩ (.int .i64 gn)).setCell ⟨w.heap.size, 5, none⟩ (.int .i64 lw)).setCell ⟨w.heap.size, 6, none⟩ (.int .i64 hg)).setCell ⟨w.heap.size, 7, none⟩ (.int .i64 ut)) g A n c xs (b + 2 + 2 + 2 + 2 + 2 + 8 + 2 + 2)) := hide (((((((((unhide HC11).set (p := ⟨w.heap.size, 0, none⟩) hgw _).set (p := ⟨w.heap.size, 1, none⟩) hgw _).set (p := ⟨w.heap.size, 2, none⟩) hgw _).set (p := ⟨w.heap.size, 3, none⟩) hgw _).set (p := ⟨w.heap.size, 4, none⟩) hgw _).set (p := ⟨w.heap.size, 5, none⟩) hgw _).set (p := ⟨w.heap.size, 6, none⟩) hgw _).set (p := ⟨w.heap.size, 7, none⟩) hgw _)
    have HYG : Hid (w.grownBy ((((((((w11.setCell ⟨w.heap.size, 0, none⟩ (.int .i64 id)).setCell ⟨w.heap.size, 1, none⟩ (.string v)).setCell ⟨w.heap.size, 2, none⟩ (.int .i64 px)).setCell ⟨w.heap.size, 3, none⟩ (.int .i64 py)).setCell ⟨w.heap.size, 4, none⟩ (.int .i64 gn)).setCell ⟨w.heap.size, 5, none⟩ (.int .i64 lw)).setCell ⟨w.heap.size, 6, none⟩ (.int .i64 hg)).setCell ⟨w.heap.size, 7, none⟩ (.int .i64 ut)) (some g)) := hide (grown_set' (grown_set' (grown_set' (grown_set' (grown_set' (grown_set' (grown_set' (grown_set' (unhide HG11) (p := ⟨w.heap.size, 0, none⟩) (Nat.le_refl _) _) (p := ⟨w.heap.size, 1, none⟩) (Nat.le_refl _) _) (p := ⟨w.heap.size, 2, none⟩) (Nat.le_refl _) _) (p := ⟨w.heap.size, 3, none⟩) (Nat.le_refl _) _) (p := ⟨w.heap.size, 4, none⟩) (Nat.le_refl _) _) (p := ⟨w.heap.size, 5, none⟩) (Nat.le_refl _) _) (p := ⟨w.heap.size, 6, none⟩) (Nat.le_refl _) _) (p := ⟨w.heap.size, 7, none⟩) (Nat.le_refl _) _)
    clear k0 m0 n0 k1 m1 n1 k2 m2 n2 k3 m3 n3 k4 m4 n4 k5 m5 n5 k6 m6 n6 k7 m7 n7 HS11 HC11 HG11 HZ11
    generalize ((((((((w11.setCell ⟨w.heap.size, 0, none⟩ (.int .i64 id)).setCell ⟨w.heap.size, 1, none⟩ (.string v)).setCell ⟨w.heap.size, 2, none⟩ (.int .i64 px)).setCell ⟨w.heap.size, 3, none⟩ (.int .i64 py)).setCell ⟨w.heap.size, 4, none⟩ (.int .i64 gn)).setCell ⟨w.heap.size, 5, none⟩ (.int .i64 lw)).setCell ⟨w.heap.size, 6, none⟩ (.int .i64 hg)).setCell ⟨w.heap.size, 7, none⟩ (.int .i64 ut)) = wz at *
    have y0 : wz.cell? ⟨w.heap.size, 0, none⟩ = some (.int .i64 id) := (unhide HY).cell 0
    have y1 : wz.cell? ⟨w.heap.size, 1, none⟩ = some (.string v) := (unhide HY).cell 1
    have y2 : wz.cell? ⟨w.heap.size, 2, none⟩ = some (.int .i64 px) := (unhide HY).cell 2
    have y3 : wz.cell? ⟨w.heap.size, 3, none⟩ = some (.int .i64 py) := (unhide HY).cell 3
    have y4 : wz.cell? ⟨w.heap.size, 4, none⟩ = some (.int .i64 gn) := (unhide HY).cell 4
    have y5 : wz.cell? ⟨w.heap.size, 5, none⟩ = some (.int .i64 lw) := (unhide HY).cell 5
    have y6 : wz.cell? ⟨w.heap.size, 6, none⟩ = some (.int .i64 hg) := (unhide HY).cell 6
    have y7 : wz.cell? ⟨w.heap.size, 7, none⟩ = some (.int .i64 ut) := (unhide HY).cell 7
    have x0 : wz.frozen? ⟨w.heap.size, 0, none⟩ = false := (unhide HY).frozen 0
    have x1 : wz.frozen? ⟨w.heap.size, 1, none⟩ = false := (unhide HY).frozen 1
    have x2 : wz.frozen? ⟨w.heap.size, 2, none⟩ = false := (unhide HY).frozen 2
    have x3 : wz.frozen? ⟨w.heap.size, 3, none⟩ = false := (unhide HY).frozen 3
    have x4 : wz.frozen? ⟨w.heap.size, 4, none⟩ = false := (unhide HY).frozen 4
    have x5 : wz.frozen? ⟨w.heap.size, 5, none⟩ = false := (unhide HY).frozen 5
    have x6 : wz.frozen? ⟨w.heap.size, 6, none⟩ = false := (unhide HY).frozen 6
    have x7 : wz.frozen? ⟨w.heap.size, 7, none⟩ = false := (unhide HY).frozen 7
    go_wp2_with fail
    refine bodyPost_ret (v := .agg #[.int .i64 id, .string v, .int .i64 px, .int .i64 py, .int .i64 gn, .int .i64 lw, .int .i64 hg, .int .i64 ut]) (by simp [results, Try.results108, go_sem, y0, x0, y1, x1, y2, x2, y3, x3, y4, x4, y5, x5, y6, x6, y7, x7]) rfl ?_
    exact ⟨⟨id, v, px, py, gn, lw, hg, ut⟩, rfl, hv, (unhide HYC).more (by omega), unhide HYG⟩
  · skip
    go_wp2_with fail
    refine (among_lit g n c (b + 2 + 2 + 2 + 2 + 2 + 8 + 2) _ A xs w9 rfl [0, 10001] 2 _ (fun _ => True) rfl rfl (by omega) (by omega) (by simp) (unhide HC9) (by omega) (by omega)).mono ?_
    rintro e w10 ⟨v, rfl, _, hC, hgr⟩
    have HG10 := hide (grownBy_trans (unhide HG9) hgr)
    have HZ10 := hide ((unhide HZ9).gr hgr (by omega))
    have HS10 := hide ((unhide HS9).gr hgr (by omega))
    have HC10 := hide hC
    clear hC hgr HC9 HG9 HZ9 HS9
    have u0 := (unhide HS10).cell 4
    have u1 : w10.frozen? ⟨gs, 4, none⟩ = false := (unhide HS10).frozen 4
    go_upto_region 16 with (fail)
    clear u0 u1
    have HS11 : Hid (Whl (w10.setCell ⟨gs, 4, none⟩ (.int .i64 v)) gs 26 #[.int .i64 id, .string nm, .int .i64 px, .int .i64 py, .int .i64 v, .int .i64 lw, .int .i64 hg, .int .i64 ut]) := hide ((unhide HS10).store 4 _)
    have HC11 : Hid (Cur (w10.setCell ⟨gs, 4, none⟩ (.int .i64 v)) g A n c xs (b + 2 + 2 + 2 + 2 + 2 + 8 + 2 + 2)) := hide ((unhide HC10).set (p := ⟨gs, 4, none⟩) hgs _)
    have HG11 : Hid (w.grownBy (w10.setCell ⟨gs, 4, none⟩ (.int .i64 v)) (some g)) := hide (grown_set' (unhide HG10) (p := ⟨gs, 4, none⟩) (Nat.le_of_lt hzs) _)
    have HZ11 : Hid (Whl (w10.setCell ⟨gs, 4, none⟩ (.int .i64 v)) w.heap.size 26 _) := hide (Whl.far (unhide HZ10) (p := ⟨gs, 4, none⟩) (by show w.heap.size ≠ gs; omega) _)
    clear HS10 HC10 HG10 HZ10
    generalize (w10.setCell ⟨gs, 4, none⟩ (.int .i64 v)) = w11 at *
    have k0 : w11.cell? ⟨gs, 0, none⟩ = some (.int .i64 id) := (unhide HS11).cell 0
    have k1 : w11.cell? ⟨gs, 1, none⟩ = some (.string nm) := (unhide HS11).cell 1
    have k2 : w11.cell? ⟨gs, 2, none⟩ = some (.int .i64 px) := (unhide HS11).cell 2
    have k3 : w11.cell? ⟨gs, 3, none⟩ = some (.int .i64 py) := (unhide HS11).cell 3
    have k4 : w11.cell? ⟨gs, 4, none⟩ = some (.int .i64 v) := (unhide HS11).cell 4
    have k5 : w11.cell? ⟨gs, 5, none⟩ = some (.int .i64 lw) := (unhide HS11).cell 5
    have k6 : w11.cell? ⟨gs, 6, none⟩ = some (.int .i64 hg) := (unhide HS11).cell 6
    have k7 : w11.cell? ⟨gs, 7, none⟩ = some (.int .i64 ut) := (unhide HS11).cell 7
    have m0 := (unhide HZ11).cell 0
    have n0 : w11.frozen? ⟨w.heap.size, 0, none⟩ = false := (unhide HZ11).frozen 0
    have m1 := (unhide HZ11).cell 1
    have n1 : w11.frozen? ⟨w.heap.size, 1, none⟩ = false := (unhide HZ11).frozen 1
    have m2 := (unhide HZ11).cell 2
    have n2 : w11.frozen? ⟨w.heap.size, 2, none⟩ = false := (unhide HZ11).frozen 2
    have m3 := (unhide HZ11).cell 3
    have n3 : w11.frozen? ⟨w.heap.size, 3, none⟩ = false := (unhide HZ11).frozen 3
    have m4 := (unhide HZ11).cell 4
    have n4 : w11.frozen? ⟨w.heap.size, 4, none⟩ = false := (unhide HZ11).frozen 4
    have m5 := (unhide HZ11).cell 5
    have n5 : w11.frozen? ⟨w.heap.size, 5, none⟩ = false := (unhide HZ11).frozen 5
    have m6 := (unhide HZ11).cell 6
    have n6 : w11.frozen? ⟨w.heap.size, 6, none⟩ = false := (unhide HZ11).frozen 6
    have m7 := (unhide HZ11).cell 7
    have n7 : w11.frozen? ⟨w.heap.size, 7, none⟩ = false := (unhide HZ11).frozen 7
    go_wp2_with fail
    have HY : Hid (Whl ((((((((w11.setCell ⟨w.heap.size, 0, none⟩ (.int .i64 id)).setCell ⟨w.heap.size, 1, none⟩ (.string nm)).setCell ⟨w.heap.size, 2, none⟩ (.int .i64 px)).setCell ⟨w.heap.size, 3, none⟩ (.int .i64 py)).setCell ⟨w.heap.size, 4, none⟩ (.int .i64 v)).setCell ⟨w.heap.size, 5, none⟩ (.int .i64 lw)).setCell ⟨w.heap.size, 6, none⟩ (.int .i64 hg)).setCell ⟨w.heap.size, 7, none⟩ (.int .i64 ut)) w.heap.size 26 #[.int .i64 id, .string nm, .int .i64 px, .int .i64 py, .int .i64 v, .int .i64 lw, .int .i64 hg, .int .i64 ut]) := hide ((unhide HZ11).store8 _ _ _ _ _ _ _ _)
    have HYC : Hid (Cur ((((((((w11.setCell ⟨w.heap.size, 0, none⟩ (.int .i64 id)).setCell ⟨w.heap.size, 1, none⟩ (.string nm)).setCell ⟨w.heap.size, 2, none⟩ (.int .i64 px)).setCell ⟨w.heap.size, 3, none⟩ (.int .i64 py)).setCell ⟨w.heap.size, 4, none⟩ (.int .i64 v)).setCell ⟨w.heap.size, 5, none⟩ (.int .i64 lw)).setCell ⟨w.heap.size, 6, none⟩ (.int .i64 hg)).setCell ⟨w.heap.size, 7, none⟩ (.int .i64 ut)) g A n c xs (b + 2 + 2 + 2 + 2 + 2 + 8 + 2 + 2)) := hide (((((((((unhide HC11).set (p := ⟨w.heap.size, 0, none⟩) hgw _).set (p := ⟨w.heap.size, 1, none⟩) hgw _).set (p := ⟨w.heap.size, 2, none⟩) hgw _).set (p := ⟨w.heap.size, 3, none⟩) hgw _).set (p := ⟨w.heap.size, 4, none⟩) hgw _).set (p := ⟨w.heap.size, 5, none⟩) hgw _).set (p := ⟨w.heap.size, 6, none⟩) hgw _).set (p := ⟨w.heap.size, 7, none⟩) hgw _)
    have HYG : Hid (w.grownBy ((((((((w11.setCell ⟨w.heap.size, 0, none⟩ (.int .i64 id)).setCell ⟨w.heap.size, 1, none⟩ (.string nm)).setCell ⟨w.heap.size, 2, none⟩ (.int .i64 px)).setCell ⟨w.heap.size, 3, none⟩ (.int .i64 py)).setCell ⟨w.heap.size, 4, none⟩ (.int .i64 v)).setCell ⟨w.heap.size, 5, none⟩ (.int .i64 lw)).setCell ⟨w.heap.size, 6, none⟩ (.int .i64 hg)).setCell ⟨w.heap.size, 7, none⟩ (.int .i64 ut)) (some g)) := hide (grown_set' (grown_set' (grown_set' (grown_set' (grown_set' (grown_set' (grown_set' (grown_set' (unhide HG11) (p := ⟨w.heap.size, 0, none⟩) (Nat.le_refl _) _) (p := ⟨w.heap.size, 1, none⟩) (Nat.le_refl _) _) (p := ⟨w.heap.size, 2, none⟩) (Nat.le_refl _) _) (p := ⟨w.heap.size, 3, none⟩) (Nat.le_refl _) _) (p := ⟨w.heap.size, 4, none⟩) (Nat.le_refl _) _) (p := ⟨w.heap.size, 5, none⟩) (Nat.le_refl _) _) (p := ⟨w.heap.size, 6, none⟩) (Nat.le_refl _) _) (p := ⟨w.heap.size, 7, none⟩) (Nat.le_refl _) _)
    clear k0 m0 n0 k1 m1 n1 k2 m2 n2 k3 m3 n3 k4 m4 n4 k5 m5 n5 k6 m6 n6 k7 m7 n7 HS11 HC11 HG11 HZ11
    generalize ((((((((w11.setCell ⟨w.heap.size, 0, none⟩ (.int .i64 id)).setCell ⟨w.heap.size, 1, none⟩ (.string nm)).setCell ⟨w.heap.size, 2, none⟩ (.int .i64 px)).setCell ⟨w.heap.size, 3, none⟩ (.int .i64 py)).setCell ⟨w.heap.size, 4, none⟩ (.int .i64 v)).setCell ⟨w.heap.size, 5, none⟩ (.int .i64 lw)).setCell ⟨w.heap.size, 6, none⟩ (.int .i64 hg)).setCell ⟨w.heap.size, 7, none⟩ (.int .i64 ut)) = wz at *
    have y0 : wz.cell? ⟨w.heap.size, 0, none⟩ = some (.int .i64 id) := (unhide HY).cell 0
    have y1 : wz.cell? ⟨w.heap.size, 1, none⟩ = some (.string nm) := (unhide HY).cell 1
    have y2 : wz.cell? ⟨w.heap.size, 2, none⟩ = some (.int .i64 px) := (unhide HY).cell 2
    have y3 : wz.cell? ⟨w.heap.size, 3, none⟩ = some (.int .i64 py) := (unhide HY).cell 3
    have y4 : wz.cell? ⟨w.heap.size, 4, none⟩ = some (.int .i64 v) := (unhide HY).cell 4
    have y5 : wz.cell? ⟨w.heap.size, 5, none⟩ = some (.int .i64 lw) := (unhide HY).cell 5
    have y6 : wz.cell? ⟨w.heap.size, 6, none⟩ = some (.int .i64 hg) := (unhide HY).cell 6
    have y7 : wz.cell? ⟨w.heap.size, 7, none⟩ = some (.int .i64 ut) := (unhide HY).cell 7
    have x0 : wz.frozen? ⟨w.heap.size, 0, none⟩ = false := (unhide HY).frozen 0
    have x1 : wz.frozen? ⟨w.heap.size, 1, none⟩ = false := (unhide HY).frozen 1
    have x2 : wz.frozen? ⟨w.heap.size, 2, none⟩ = false := (unhide HY).frozen 2
    have x3 : wz.frozen? ⟨w.heap.size, 3, none⟩ = false := (unhide HY).frozen 3
    have x4 : wz.frozen? ⟨w.heap.size, 4, none⟩ = false := (unhide HY).frozen 4
    have x5 : wz.frozen? ⟨w.heap.size, 5, none⟩ = false := (unhide HY).frozen 5
    have x6 : wz.frozen? ⟨w.heap.size, 6, none⟩ = false := (unhide HY).frozen 6
    have x7 : wz.frozen? ⟨w.heap.size, 7, none⟩ = false := (unhide HY).frozen 7
    go_wp2_with fail
    refine bodyPost_ret (v := .agg #[.int .i64 id, .string nm, .int .i64 px, .int .i64 py, .int .i64 v, .int .i64 lw, .int .i64 hg, .int .i64 ut]) (by simp [results, Try.results108, go_sem, y0, x0, y1, x1, y2, x2, y3, x3, y4, x4, y5, x5, y6, x6, y7, x7]) rfl ?_
    exact ⟨⟨id, nm, px, py, v, lw, hg, ut⟩, rfl, hnm, (unhide HYC).more (by omega), unhide HYG⟩
  · skip
    have u0 : w9.cell? ⟨gs, 6, none⟩ = some (.int .i64 hg) := (unhide HS9).cell 6
    go_wp2_with fail
    refine (among_lit g n c (b + 2 + 2 + 2 + 2 + 2 + 8 + 2) _ A xs w9 rfl [0, hg] 2 _ (fun _ => True) rfl rfl (by omega) (by omega) (by simp) (unhide HC9) (by omega) (by omega)).mono ?_
    rintro e w10 ⟨v, rfl, _, hC, hgr⟩
    have HG10 := hide (grownBy_trans (unhide HG9) hgr)
    have HZ10 := hide ((unhide HZ9).gr hgr (by omega))
    have HS10 := hide ((unhide HS9).gr hgr (by omega))
    have HC10 := hide hC
    clear hC hgr HC9 HG9 HZ9 HS9 u0
    have u0 := (unhide HS10).cell 5
    have u1 : w10.frozen? ⟨gs, 5, none⟩ = false := (unhide HS10).frozen 5
    go_upto_region 16 with (fail)
    clear u0 u1
    have HS11 : Hid (Whl (w10.setCell ⟨gs, 5, none⟩ (.int .i64 v)) gs 26 #[.int .i64 id, .string nm, .int .i64 px, .int .i64 py, .int .i64 gn, .int .i64 v, .int .i64 hg, .int .i64 ut]) := hide ((unhide HS10).store 5 _)
    have HC11 : Hid (Cur (w10.setCell ⟨gs, 5, none⟩ (.int .i64 v)) g A n c xs (b + 2 + 2 + 2 + 2 + 2 + 8 + 2 + 2)) := hide ((unhide HC10).set (p := ⟨gs, 5, none⟩) hgs _)
    have HG11 : Hid (w.grownBy (w10.setCell ⟨gs, 5, none⟩ (.int .i64 v)) (some g)) := hide (grown_set' (unhide HG10) (p := ⟨gs, 5, none⟩) (Nat.le_of_lt hzs) _)
    have HZ11 : Hid (Whl (w10.setCell ⟨gs, 5, none⟩ (.int .i64 v)) w.heap.size 26 _) := hide (Whl.far (unhide HZ10) (p := ⟨gs, 5, none⟩) (by show w.heap.size ≠ gs; omega) _)
    clear HS10 HC10 HG10 HZ10
    generalize (w10.setCell ⟨gs, 5, none⟩ (.int .i64 v)) = w11 at *
    have k0 : w11.cell? ⟨gs, 0, none⟩ = some (.int .i64 id) := (unhide HS11).cell 0
    have k1 : w11.cell? ⟨gs, 1, none⟩ = some (.string nm) := (unhide HS11).cell 1
    have k2 : w11.cell? ⟨gs, 2, none⟩ = some (.int .i64 px) := (unhide HS11).cell 2
    have k3 : w11.cell? ⟨gs, 3, none⟩ = some (.int .i64 py) := (unhide HS11).cell 3
    have k4 : w11.cell? ⟨gs, 4, none⟩ = some (.int .i64 gn) := (unhide HS11).cell 4
    have k5 : w11.cell? ⟨gs, 5, none⟩ = some (.int .i64 v) := (unhide HS11).cell 5
    have k6 : w11.cell? ⟨gs, 6, none⟩ = some (.int .i64 hg) := (unhide HS11).cell 6
    have k7 : w11.cell? ⟨gs, 7, none⟩ = some (.int .i64 ut) := (unhide HS11).cell 7
    have m0 := (unhide HZ11).cell 0
    have n0 : w11.frozen? ⟨w.heap.size, 0, none⟩ = false := (unhide HZ11).frozen 0
    have m1 := (unhide HZ11).cell 1
    have n1 : w11.frozen? ⟨w.heap.size, 1, none⟩ = false := (unhide HZ11).frozen 1
    have m2 := (unhide HZ11).cell 2
    have n2 : w11.frozen? ⟨w.heap.size, 2, none⟩ = false := (unhide HZ11).frozen 2
    have m3 := (unhide HZ11).cell 3
    have n3 : w11.frozen? ⟨w.heap.size, 3, none⟩ = false := (unhide HZ11).frozen 3
    have m4 := (unhide HZ11).cell 4
    have n4 : w11.frozen? ⟨w.heap.size, 4, none⟩ = false := (unhide HZ11).frozen 4
    have m5 := (unhide HZ11).cell 5
    have n5 : w11.frozen? ⟨w.heap.size, 5, none⟩ = false := (unhide HZ11).frozen 5
    have m6 := (unhide HZ11).cell 6
    have n6 : w11.frozen? ⟨w.heap.size, 6, none⟩ = false := (unhide HZ11).frozen 6
    have m7 := (unhide HZ11).cell 7
    have n7 : w11.frozen? ⟨w.heap.size, 7, none⟩ = false := (unhide HZ11).frozen 7
    go_wp2_with fail
    have HY : Hid (Whl ((((((((w11.setCell ⟨w.heap.size, 0, none⟩ (.int .i64 id)).setCell ⟨w.heap.size, 1, none⟩ (.string nm)).setCell ⟨w.heap.size, 2, none⟩ (.int .i64 px)).setCell ⟨w.heap.size, 3, none⟩ (.int .i64 py)).setCell ⟨w.heap.size, 4, none⟩ (.int .i64 gn)).setCell ⟨w.heap.size, 5, none⟩ (.int .i64 v)).setCell ⟨w.heap.size, 6, none⟩ (.int .i64 hg)).setCell ⟨w.heap.size, 7, none⟩ (.int .i64 ut)) w.heap.size 26 #[.int .i64 id, .string nm, .int .i64 px, .int .i64 py, .int .i64 gn, .int .i64 v, .int .i64 hg, .int .i64 ut]) := hide ((unhide HZ11).store8 _ _ _ _ _ _ _ _)
    have HYC : Hid (Cur ((((((((w11.setCell ⟨w.heap.size, 0, none⟩ (.int .i64 id)).setCell ⟨w.heap.size, 1, none⟩ (.string nm)).setCell ⟨w.heap.size, 2, none⟩ (.int .i64 px)).setCell ⟨w.heap.size, 3, none⟩ (.int .i64 py)).setCell ⟨w.heap.size, 4, none⟩ (.int .i64 gn)).setCell ⟨w.heap.size, 5, none⟩ (.int .i64 v)).setCell ⟨w.heap.size, 6, none⟩ (.int .i64 hg)).setCell ⟨w.heap.size, 7, none⟩ (.int .i64 ut)) g A n c xs (b + 2 + 2 + 2 + 2 + 2 + 8 + 2 + 2)) := hide (((((((((unhide HC11).set (p := ⟨w.heap.size, 0, none⟩) hgw _).set (p := ⟨w.heap.size, 1, none⟩) hgw _).set (p := ⟨w.heap.size, 2, none⟩) hgw _).set (p := ⟨w.heap.size, 3, none⟩) hgw _).set (p := ⟨w.heap.size, 4, none⟩) hgw _).set (p := ⟨w.heap.size, 5, none⟩) hgw _).set (p := ⟨w.heap.size, 6, none⟩) hgw _).set (p := ⟨w.heap.size, 7, none⟩) hgw _)
    have HYG : Hid (w.grownBy ((((((((w11.setCell ⟨w.heap.size, 0, none⟩ (.int .i64 id)).setCell ⟨w.heap.size, 1, none⟩ (.string nm)).setCell ⟨w.heap.size, 2, none⟩ (.int .i64 px)).setCell ⟨w.heap.size, 3, none⟩ (.int .i64 py)).setCell ⟨w.heap.size, 4, none⟩ (.int .i64 gn)).setCell ⟨w.heap.size, 5, none⟩ (.int .i64 v)).setCell ⟨w.heap.size, 6, none⟩ (.int .i64 hg)).setCell ⟨w.heap.size, 7, none⟩ (.int .i64 ut)) (some g)) := hide (grown_set' (grown_set' (grown_set' (grown_set' (grown_set' (grown_set' (grown_set' (grown_set' (unhide HG11) (p := ⟨w.heap.size, 0, none⟩) (Nat.le_refl _) _) (p := ⟨w.heap.size, 1, none⟩) (Nat.le_refl _) _) (p := ⟨w.heap.size, 2, none⟩) (Nat.le_refl _) _) (p := ⟨w.heap.size, 3, none⟩) (Nat.le_refl _) _) (p := ⟨w.heap.size, 4, none⟩) (Nat.le_refl _) _) (p := ⟨w.heap.size, 5, none⟩) (Nat.le_refl _) _) (p := ⟨w.heap.size, 6, none⟩) (Nat.le_refl _) _) (p := ⟨w.heap.size, 7, none⟩) (Nat.le_refl _) _)
    clear k0 m0 n0 k1 m1 n1 k2 m2 n2 k3 m3 n3 k4 m4 n4 k5 m5 n5 k6 m6 n6 k7 m7 n7 HS11 HC11 HG11 HZ11
    generalize ((((((((w11.setCell ⟨w.heap.size, 0, none⟩ (.int .i64 id)).setCell ⟨w.heap.size, 1, none⟩ (.string nm)).setCell ⟨w.heap.size, 2, none⟩ (.int .i64 px)).setCell ⟨w.heap.size, 3, none⟩ (.int .i64 py)).setCell ⟨w.heap.size, 4, none⟩ (.int .i64 gn)).setCell ⟨w.heap.size, 5, none⟩ (.int .i64 v)).setCell ⟨w.heap.size, 6, none⟩ (.int .i64 hg)).setCell ⟨w.heap.size, 7, none⟩ (.int .i64 ut)) = wz at *
    have y0 : wz.cell? ⟨w.heap.size, 0, none⟩ = some (.int .i64 id) := (unhide HY).cell 0
    have y1 : wz.cell? ⟨w.heap.size, 1, none⟩ = some (.string nm) := (unhide HY).cell 1
    have y2 : wz.cell? ⟨w.heap.size, 2, none⟩ = some (.int .i64 px) := (unhide HY).cell 2
    have y3 : wz.cell? ⟨w.heap.size, 3, none⟩ = some (.int .i64 py) := (unhide HY).cell 3
    have y4 : wz.cell? ⟨w.heap.size, 4, none⟩ = some (.int .i64 gn) := (unhide HY).cell 4
    have y5 : wz.cell? ⟨w.heap.size, 5, none⟩ = some (.int .i64 v) := (unhide HY).cell 5
    have y6 : wz.cell? ⟨w.heap.size, 6, none⟩ = some (.int .i64 hg) := (unhide HY).cell 6
    have y7 : wz.cell? ⟨w.heap.size, 7, none⟩ = some (.int .i64 ut) := (unhide HY).cell 7
    have x0 : wz.frozen? ⟨w.heap.size, 0, none⟩ = false := (unhide HY).frozen 0
    have x1 : wz.frozen? ⟨w.heap.size, 1, none⟩ = false := (unhide HY).frozen 1
    have x2 : wz.frozen? ⟨w.heap.size, 2, none⟩ = false := (unhide HY).frozen 2
    have x3 : wz.frozen? ⟨w.heap.size, 3, none⟩ = false := (unhide HY).frozen 3
    have x4 : wz.frozen? ⟨w.heap.size, 4, none⟩ = false := (unhide HY).frozen 4
    have x5 : wz.frozen? ⟨w.heap.size, 5, none⟩ = false := (unhide HY).frozen 5
    have x6 : wz.frozen? ⟨w.heap.size, 6, none⟩ = false := (unhide HY).frozen 6
    have x7 : wz.frozen? ⟨w.heap.size, 7, none⟩ = false := (unhide HY).frozen 7
    go_wp2_with fail
    refine bodyPost_ret (v := .agg #[.int .i64 id, .string nm, .int .i64 px, .int .i64 py, .int .i64 gn, .int .i64 v, .int .i64 hg, .int .i64 ut]) (by simp [results, Try.results108, go_sem, y0, x0, y1, x1, y2, x2, y3, x3, y4, x4, y5, x5, y6, x6, y7, x7]) rfl ?_
    exact ⟨⟨id, nm, px, py, gn, v, hg, ut⟩, rfl, hnm, (unhide HYC).more (by omega), unhide HYG⟩
  · skip
    have u0 : w9.cell? ⟨gs, 6, none⟩ = some (.int .i64 hg) := (unhide HS9).cell 6
    have u1 : w9.frozen? ⟨gs, 6, none⟩ = false := (unhide HS9).frozen 6
    go_upto_region 16 with (fail)
    clear u0 u1
    have HS11 : Hid (Whl (w9.setCell ⟨gs, 6, none⟩ (.int .i64 5001)) gs 26 #[.int .i64 id, .string nm, .int .i64 px, .int .i64 py, .int .i64 gn, .int .i64 lw, .int .i64 5001, .int .i64 ut]) := hide ((unhide HS9).store 6 _)
    have HC11 : Hid (Cur (w9.setCell ⟨gs, 6, none⟩ (.int .i64 5001)) g A n c xs (b + 2 + 2 + 2 + 2 + 2 + 8 + 2)) := hide ((unhide HC9).set (p := ⟨gs, 6, none⟩) hgs _)
    have HG11 : Hid (w.grownBy (w9.setCell ⟨gs, 6, none⟩ (.int .i64 5001)) (some g)) := hide (grown_set' (unhide HG9) (p := ⟨gs, 6, none⟩) (Nat.le_of_lt hzs) _)
    have HZ11 : Hid (Whl (w9.setCell ⟨gs, 6, none⟩ (.int .i64 5001)) w.heap.size 26 _) := hide (Whl.far (unhide HZ9) (p := ⟨gs, 6, none⟩) (by show w.heap.size ≠ gs; omega) _)
    clear HS9 HC9 HG9 HZ9
    generalize (w9.setCell ⟨gs, 6, none⟩ (.int .i64 5001)) = w11 at *
    have k0 : w11.cell? ⟨gs, 0, none⟩ = some (.int .i64 id) := (unhide HS11).cell 0
    have k1 : w11.cell? ⟨gs, 1, none⟩ = some (.string nm) := (unhide HS11).cell 1
    have k2 : w11.cell? ⟨gs, 2, none⟩ = some (.int .i64 px) := (unhide HS11).cell 2
    have k3 : w11.cell? ⟨gs, 3, none⟩ = some (.int .i64 py) := (unhide HS11).cell 3
    have k4 : w11.cell? ⟨gs, 4, none⟩ = some (.int .i64 gn) := (unhide HS11).cell 4
    have k5 : w11.cell? ⟨gs, 5, none⟩ = some (.int .i64 lw) := (unhide HS11).cell 5
    have k6 : w11.cell? ⟨gs, 6, none⟩ = some (.int .i64 5001) := (unhide HS11).cell 6
    have k7 : w11.cell? ⟨gs, 7, none⟩ = some (.int .i64 ut) := (unhide HS11).cell 7
    have m0 := (unhide HZ11).cell 0
    have n0 : w11.frozen? ⟨w.heap.size, 0, none⟩ = false := (unhide HZ11).frozen 0
    have m1 := (unhide HZ11).cell 1
    have n1 : w11.frozen? ⟨w.heap.size, 1, none⟩ = false := (unhide HZ11).frozen 1
    have m2 := (unhide HZ11).cell 2
    have n2 : w11.frozen? ⟨w.heap.size, 2, none⟩ = false := (unhide HZ11).frozen 2
    have m3 := (unhide HZ11).cell 3
    have n3 : w11.frozen? ⟨w.heap.size, 3, none⟩ = false := (unhide HZ11).frozen 3
    have m4 := (unhide HZ11).cell 4
    have n4 : w11.frozen? ⟨w.heap.size, 4, none⟩ = false := (unhide HZ11).frozen 4
    have m5 := (unhide HZ11).cell 5
    have n5 : w11.frozen? ⟨w.heap.size, 5, none⟩ = false := (unhide HZ11).frozen 5
    have m6 := (unhide HZ11).cell 6
    have n6 : w11.frozen? ⟨w.heap.size, 6, none⟩ = false := (unhide HZ11).frozen 6
    have m7 := (unhide HZ11).cell 7
    have n7 : w11.frozen? ⟨w.heap.size, 7, none⟩ = false := (unhide HZ11).frozen 7
    go_wp2_with fail
    have HY : Hid (Whl ((((((((w11.setCell ⟨w.heap.size, 0, none⟩ (.int .i64 id)).setCell ⟨w.heap.size, 1, none⟩ (.string nm)).setCell ⟨w.heap.size, 2, none⟩ (.int .i64 px)).setCell ⟨w.heap.size, 3, none⟩ (.int .i64 py)).setCell ⟨w.heap.size, 4, none⟩ (.int .i64 gn)).setCell ⟨w.heap.size, 5, none⟩ (.int .i64 lw)).setCell ⟨w.heap.size, 6, none⟩ (.int .i64 5001)).setCell ⟨w.heap.size, 7, none⟩ (.int .i64 ut)) w.heap.size 26 #[.int .i64 id, .string nm, .int .i64 px, .int .i64 py, .int .i64 gn, .int .i64 lw, .int .i64 5001, .int .i64 ut]) := hide ((unhide HZ11).store8 _ _ _ _ _ _ _ _)
    have HYC : Hid (Cur ((((((((w11.setCell ⟨w.heap.size, 0, none⟩ (.int .i64 id)).setCell ⟨w.heap.size, 1, none⟩ (.string nm)).setCell ⟨w.heap.size, 2, none⟩ (.int .i64 px)).setCell ⟨w.heap.size, 3, none⟩ (.int .i64 py)).setCell ⟨w.heap.size, 4, none⟩ (.int .i64 gn)).setCell ⟨w.heap.size, 5, none⟩ (.int .i64 lw)).setCell ⟨w.heap.size, 6, none⟩ (.int .i64 5001)).setCell ⟨w.heap.size, 7, none⟩ (.int .i64 ut)) g A n c xs (b + 2 + 2 + 2 + 2 + 2 + 8 + 2)) := hide (((((((((unhide HC11).set (p := ⟨w.heap.size, 0, none⟩) hgw _).set (p := ⟨w.heap.size, 1, none⟩) hgw _).set (p := ⟨w.heap.size, 2, none⟩) hgw _).set (p := ⟨w.heap.size, 3, none⟩) hgw _).set (p := ⟨w.heap.size, 4, none⟩) hgw _).set (p := ⟨w.heap.size, 5, none⟩) hgw _).set (p := ⟨w.heap.size, 6, none⟩) hgw _).set (p := ⟨w.heap.size, 7, none⟩) hgw _)
    have HYG : Hid (w.grownBy ((((((((w11.setCell ⟨w.heap.size, 0, none⟩ (.int .i64 id)).setCell ⟨w.heap.size, 1, none⟩ (.string nm)).setCell ⟨w.heap.size, 2, none⟩ (.int .i64 px)).setCell ⟨w.heap.size, 3, none⟩ (.int .i64 py)).setCell ⟨w.heap.size, 4, none⟩ (.int .i64 gn)).setCell ⟨w.heap.size, 5, none⟩ (.int .i64 lw)).setCell ⟨w.heap.size, 6, none⟩ (.int .i64 5001)).setCell ⟨w.heap.size, 7, none⟩ (.int .i64 ut)) (some g)) := hide (grown_set' (grown_set' (grown_set' (grown_set' (grown_set' (grown_set' (grown_set' (grown_set' (unhide HG11) (p := ⟨w.heap.size, 0, none⟩) (Nat.le_refl _) _) (p := ⟨w.heap.size, 1, none⟩) (Nat.le_refl _) _) (p := ⟨w.heap.size, 2, none⟩) (Nat.le_refl _) _) (p := ⟨w.heap.size, 3, none⟩) (Nat.le_refl _) _) (p := ⟨w.heap.size, 4, none⟩) (Nat.le_refl _) _) (p := ⟨w.heap.size, 5, none⟩) (Nat.le_refl _) _) (p := ⟨w.heap.size, 6, none⟩) (Nat.le_refl _) _) (p := ⟨w.heap.size, 7, none⟩) (Nat.le_refl _) _)
    clear k0 m0 n0 k1 m1 n1 k2 m2 n2 k3 m3 n3 k4 m4 n4 k5 m5 n5 k6 m6 n6 k7 m7 n7 HS11 HC11 HG11 HZ11
    generalize ((((((((w11.setCell ⟨w.heap.size, 0, none⟩ (.int .i64 id)).setCell ⟨w.heap.size, 1, none⟩ (.string nm)).setCell ⟨w.heap.size, 2, none⟩ (.int .i64 px)).setCell ⟨w.heap.size, 3, none⟩ (.int .i64 py)).setCell ⟨w.heap.size, 4, none⟩ (.int .i64 gn)).setCell ⟨w.heap.size, 5, none⟩ (.int .i64 lw)).setCell ⟨w.heap.size, 6, none⟩ (.int .i64 5001)).setCell ⟨w.heap.size, 7, none⟩ (.int .i64 ut)) = wz at *
    have y0 : wz.cell? ⟨w.heap.size, 0, none⟩ = some (.int .i64 id) := (unhide HY).cell 0
    have y1 : wz.cell? ⟨w.heap.size, 1, none⟩ = some (.string nm) := (unhide HY).cell 1
    have y2 : wz.cell? ⟨w.heap.size, 2, none⟩ = some (.int .i64 px) := (unhide HY).cell 2
    have y3 : wz.cell? ⟨w.heap.size, 3, none⟩ = some (.int .i64 py) := (unhide HY).cell 3
    have y4 : wz.cell? ⟨w.heap.size, 4, none⟩ = some (.int .i64 gn) := (unhide HY).cell 4
    have y5 : wz.cell? ⟨w.heap.size, 5, none⟩ = some (.int .i64 lw) := (unhide HY).cell 5
    have y6 : wz.cell? ⟨w.heap.size, 6, none⟩ = some (.int .i64 5001) := (unhide HY).cell 6
    have y7 : wz.cell? ⟨w.heap.size, 7, none⟩ = some (.int .i64 ut) := (unhide HY).cell 7
    have x0 : wz.frozen? ⟨w.heap.size, 0, none⟩ = false := (unhide HY).frozen 0
    have x1 : wz.frozen? ⟨w.heap.size, 1, none⟩ = false := (unhide HY).frozen 1
    have x2 : wz.frozen? ⟨w.heap.size, 2, none⟩ = false := (unhide HY).frozen 2
    have x3 : wz.frozen? ⟨w.heap.size, 3, none⟩ = false := (unhide HY).frozen 3
    have x4 : wz.frozen? ⟨w.heap.size, 4, none⟩ = false := (unhide HY).frozen 4
    have x5 : wz.frozen? ⟨w.heap.size, 5, none⟩ = false := (unhide HY).frozen 5
    have x6 : wz.frozen? ⟨w.heap.size, 6, none⟩ = false := (unhide HY).frozen 6
    have x7 : wz.frozen? ⟨w.heap.size, 7, none⟩ = false := (unhide HY).frozen 7
    go_wp2_with fail
    refine bodyPost_ret (v := .agg #[.int .i64 id, .string nm, .int .i64 px, .int .i64 py, .int .i64 gn, .int .i64 lw, .int .i64 5001, .int .i64 ut]) (by simp [results, Try.results108, go_sem, y0, x0, y1, x1, y2, x2, y3, x3, y4, x4, y5, x5, y6, x6, y7, x7]) rfl ?_
    exact ⟨⟨id, nm, px, py, gn, lw, 5001, ut⟩, rfl, hnm, (unhide HYC).more (by omega), unhide HYG⟩
  · skip
    go_wp2_with fail
    refine (among_lit g n c (b + 2 + 2 + 2 + 2 + 2 + 8 + 2) _ A xs w9 rfl [-1, 1000001] 2 _ (fun _ => True) rfl rfl (by omega) (by omega) (by simp) (unhide HC9) (by omega) (by omega)).mono ?_
    rintro e w10 ⟨v, rfl, _, hC, hgr⟩
    have HG10 := hide (grownBy_trans (unhide HG9) hgr)
    have HZ10 := hide ((unhide HZ9).gr hgr (by omega))
    have HS10 := hide ((unhide HS9).gr hgr (by omega))
    have HC10 := hide hC
    clear hC hgr HC9 HG9 HZ9 HS9
    have u0 := (unhide HS10).cell 7
    have u1 : w10.frozen? ⟨gs, 7, none⟩ = false := (unhide HS10).frozen 7
    go_upto_region 16 with (fail)
    clear u0 u1
    have HS11 : Hid (Whl (w10.setCell ⟨gs, 7, none⟩ (.int .i64 v)) gs 26 #[.int .i64 id, .string nm, .int .i64 px, .int .i64 py, .int .i64 gn, .int .i64 lw, .int .i64 hg, .int .i64 v]) := hide ((unhide HS10).store 7 _)
    have HC11 : Hid (Cur (w10.setCell ⟨gs, 7, none⟩ (.int .i64 v)) g A n c xs (b + 2 + 2 + 2 + 2 + 2 + 8 + 2 + 2)) := hide ((unhide HC10).set (p := ⟨gs, 7, none⟩) hgs _)
    have HG11 : Hid (w.grownBy (w10.setCell ⟨gs, 7, none⟩ (.int .i64 v)) (some g)) := hide (grown_set' (unhide HG10) (p := ⟨gs, 7, none⟩) (Nat.le_of_lt hzs) _)
    have HZ11 : Hid (Whl (w10.setCell ⟨gs, 7, none⟩ (.int .i64 v)) w.heap.size 26 _) := hide (Whl.far (unhide HZ10) (p := ⟨gs, 7, none⟩) (by show w.heap.size ≠ gs; omega) _)
    clear HS10 HC10 HG10 HZ10
    generalize (w10.setCell ⟨gs, 7, none⟩ (.int .i64 v)) = w11 at *
    have k0 : w11.cell? ⟨gs, 0, none⟩ = some (.int .i64 id) := (unhide HS11).cell 0
    have k1 : w11.cell? ⟨gs, 1, none⟩ = some (.string nm) := (unhide HS11).cell 1
    have k2 : w11.cell? ⟨gs, 2, none⟩ = some (.int .i64 px) := (unhide HS11).cell 2
    have k3 : w11.cell? ⟨gs, 3, none⟩ = some (.int .i64 py) := (unhide HS11).cell 3
    have k4 : w11.cell? ⟨gs, 4, none⟩ = some (.int .i64 gn) := (unhide HS11).cell 4
    have k5 : w11.cell? ⟨gs, 5, none⟩ = some (.int .i64 lw) := (unhide HS11).cell 5
    have k6 : w11.cell? ⟨gs, 6, none⟩ = some (.int .i64 hg) := (unhide HS11).cell 6
    have k7 : w11.cell? ⟨gs, 7, none⟩ = some (.int .i64 v) := (unhide HS11).cell 7
    have m0 := (unhide HZ11).cell 0
    have n0 : w11.frozen? ⟨w.heap.size, 0, none⟩ = false := (unhide HZ11).frozen 0
    have m1 := (unhide HZ11).cell 1
    have n1 : w11.frozen? ⟨w.heap.size, 1, none⟩ = false := (unhide HZ11).frozen 1
    have m2 := (unhide HZ11).cell 2
    have n2 : w11.frozen? ⟨w.heap.size, 2, none⟩ = false := (unhide HZ11).frozen 2
    have m3 := (unhide HZ11).cell 3
    have n3 : w11.frozen? ⟨w.heap.size, 3, none⟩ = false := (unhide HZ11).frozen 3
    have m4 := (unhide HZ11).cell 4
    have n4 : w11.frozen? ⟨w.heap.size, 4, none⟩ = false := (unhide HZ11).frozen 4
    have m5 := (unhide HZ11).cell 5
    have n5 : w11.frozen? ⟨w.heap.size, 5, none⟩ = false := (unhide HZ11).frozen 5
    have m6 := (unhide HZ11).cell 6
    have n6 : w11.frozen? ⟨w.heap.size, 6, none⟩ = false := (unhide HZ11).frozen 6
    have m7 := (unhide HZ11).cell 7
    have n7 : w11.frozen? ⟨w.heap.size, 7, none⟩ = false := (unhide HZ11).frozen 7
    go_wp2_with fail
    have HY : Hid (Whl ((((((((w11.setCell ⟨w.heap.size, 0, none⟩ (.int .i64 id)).setCell ⟨w.heap.size, 1, none⟩ (.string nm)).setCell ⟨w.heap.size, 2, none⟩ (.int .i64 px)).setCell ⟨w.heap.size, 3, none⟩ (.int .i64 py)).setCell ⟨w.heap.size, 4, none⟩ (.int .i64 gn)).setCell ⟨w.heap.size, 5, none⟩ (.int .i64 lw)).setCell ⟨w.heap.size, 6, none⟩ (.int .i64 hg)).setCell ⟨w.heap.size, 7, none⟩ (.int .i64 v)) w.heap.size 26 #[.int .i64 id, .string nm, .int .i64 px, .int .i64 py, .int .i64 gn, .int .i64 lw, .int .i64 hg, .int .i64 v]) := hide ((unhide HZ11).store8 _ _ _ _ _ _ _ _)
    have HYC : Hid (Cur ((((((((w11.setCell ⟨w.heap.size, 0, none⟩ (.int .i64 id)).setCell ⟨w.heap.size, 1, none⟩ (.string nm)).setCell ⟨w.heap.size, 2, none⟩ (.int .i64 px)).setCell ⟨w.heap.size, 3, none⟩ (.int .i64 py)).setCell ⟨w.heap.size, 4, none⟩ (.int .i64 gn)).setCell ⟨w.heap.size, 5, none⟩ (.int .i64 lw)).setCell ⟨w.heap.size, 6, none⟩ (.int .i64 hg)).setCell ⟨w.heap.size, 7, none⟩ (.int .i64 v)) g A n c xs (b + 2 + 2 + 2 + 2 + 2 + 8 + 2 + 2)) := hide (((((((((unhide HC11).set (p := ⟨w.heap.size, 0, none⟩) hgw _).set (p := ⟨w.heap.size, 1, none⟩) hgw _).set (p := ⟨w.heap.size, 2, none⟩) hgw _).set (p := ⟨w.heap.size, 3, none⟩) hgw _).set (p := ⟨w.heap.size, 4, none⟩) hgw _).set (p := ⟨w.heap.size, 5, none⟩) hgw _).set (p := ⟨w.heap.size, 6, none⟩) hgw _).set (p := ⟨w.heap.size, 7, none⟩) hgw _)
    have HYG : Hid (w.grownBy ((((((((w11.setCell ⟨w.heap.size, 0, none⟩ (.int .i64 id)).setCell ⟨w.heap.size, 1, none⟩ (.string nm)).setCell ⟨w.heap.size, 2, none⟩ (.int .i64 px)).setCell ⟨w.heap.size, 3, none⟩ (.int .i64 py)).setCell ⟨w.heap.size, 4, none⟩ (.int .i64 gn)).setCell ⟨w.heap.size, 5, none⟩ (.int .i64 lw)).setCell ⟨w.heap.size, 6, none⟩ (.int .i64 hg)).setCell ⟨w.heap.size, 7, none⟩ (.int .i64 v)) (some g)) := hide (grown_set' (grown_set' (grown_set' (grown_set' (grown_set' (grown_set' (grown_set' (grown_set' (unhide HG11) (p := ⟨w.heap.size, 0, none⟩) (Nat.le_refl _) _) (p := ⟨w.heap.size, 1, none⟩) (Nat.le_refl _) _) (p := ⟨w.heap.size, 2, none⟩) (Nat.le_refl _) _) (p := ⟨w.heap.size, 3, none⟩) (Nat.le_refl _) _) (p := ⟨w.heap.size, 4, none⟩) (Nat.le_refl _) _) (p := ⟨w.heap.size, 5, none⟩) (Nat.le_refl _) _) (p := ⟨w.heap.size, 6, none⟩) (Nat.le_refl _) _) (p := ⟨w.heap.size, 7, none⟩) (Nat.le_refl _) _)
    clear k0 m0 n0 k1 m1 n1 k2 m2 n2 k3 m3 n3 k4 m4 n4 k5 m5 n5 k6 m6 n6 k7 m7 n7 HS11 HC11 HG11 HZ11
    generalize ((((((((w11.setCell ⟨w.heap.size, 0, none⟩ (.int .i64 id)).setCell ⟨w.heap.size, 1, none⟩ (.string nm)).setCell ⟨w.heap.size, 2, none⟩ (.int .i64 px)).setCell ⟨w.heap.size, 3, none⟩ (.int .i64 py)).setCell ⟨w.heap.size, 4, none⟩ (.int .i64 gn)).setCell ⟨w.heap.size, 5, none⟩ (.int .i64 lw)).setCell ⟨w.heap.size, 6, none⟩ (.int .i64 hg)).setCell ⟨w.heap.size, 7, none⟩ (.int .i64 v)) = wz at *
    have y0 : wz.cell? ⟨w.heap.size, 0, none⟩ = some (.int .i64 id) := (unhide HY).cell 0
    have y1 : wz.cell? ⟨w.heap.size, 1, none⟩ = some (.string nm) := (unhide HY).cell 1
    have y2 : wz.cell? ⟨w.heap.size, 2, none⟩ = some (.int .i64 px) := (unhide HY).cell 2
    have y3 : wz.cell? ⟨w.heap.size, 3, none⟩ = some (.int .i64 py) := (unhide HY).cell 3
    have y4 : wz.cell? ⟨w.heap.size, 4, none⟩ = some (.int .i64 gn) := (unhide HY).cell 4
    have y5 : wz.cell? ⟨w.heap.size, 5, none⟩ = some (.int .i64 lw) := (unhide HY).cell 5
    have y6 : wz.cell? ⟨w.heap.size, 6, none⟩ = some (.int .i64 hg) := (unhide HY).cell 6
    have y7 : wz.cell? ⟨w.heap.size, 7, none⟩ = some (.int .i64 v) := (unhide HY).cell 7
    have x0 : wz.frozen? ⟨w.heap.size, 0, none⟩ = false := (unhide HY).frozen 0
    have x1 : wz.frozen? ⟨w.heap.size, 1, none⟩ = false := (unhide HY).frozen 1
    have x2 : wz.frozen? ⟨w.heap.size, 2, none⟩ = false := (unhide HY).frozen 2
    have x3 : wz.frozen? ⟨w.heap.size, 3, none⟩ = false := (unhide HY).frozen 3
    have x4 : wz.frozen? ⟨w.heap.size, 4, none⟩ = false := (unhide HY).frozen 4
    have x5 : wz.frozen? ⟨w.heap.size, 5, none⟩ = false := (unhide HY).frozen 5
    have x6 : wz.frozen? ⟨w.heap.size, 6, none⟩ = false := (unhide HY).frozen 6
    have x7 : wz.frozen? ⟨w.heap.size, 7, none⟩ = false := (unhide HY).frozen 7
    go_wp2_with fail
    refine bodyPost_ret (v := .agg #[.int .i64 id, .string nm, .int .i64 px, .int .i64 py, .int .i64 gn, .int .i64 lw, .int .i64 hg, .int .i64 v]) (by simp [results, Try.results108, go_sem, y0, x0, y1, x1, y2, x2, y3, x3, y4, x4, y5, x5, y6, x6, y7, x7]) rfl ?_
    exact ⟨⟨id, nm, px, py, gn, lw, hg, v⟩, rfl, hnm, (unhide HYC).more (by omega), unhide HYG⟩
  · skip
    have n0 : (q == 0) = false := by simp; omega
    have n1 : (q == 1) = false := by simp; omega
    have n2 : (q == 2) = false := by simp; omega
    have n3 : (q == 3) = false := by simp; omega
    have n4 : (q == 4) = false := by simp; omega
    have n5 : (q == 5) = false := by simp; omega
    clear hq
    have k0 : w9.cell? ⟨gs, 0, none⟩ = some (.int .i64 id) := (unhide HS9).cell 0
    have k1 : w9.cell? ⟨gs, 1, none⟩ = some (.string nm) := (unhide HS9).cell 1
    have k2 : w9.cell? ⟨gs, 2, none⟩ = some (.int .i64 px) := (unhide HS9).cell 2
    have k3 : w9.cell? ⟨gs, 3, none⟩ = some (.int .i64 py) := (unhide HS9).cell 3
    have k4 : w9.cell? ⟨gs, 4, none⟩ = some (.int .i64 gn) := (unhide HS9).cell 4
    have k5 : w9.cell? ⟨gs, 5, none⟩ = some (.int .i64 lw) := (unhide HS9).cell 5
    have k6 : w9.cell? ⟨gs, 6, none⟩ = some (.int .i64 hg) := (unhide HS9).cell 6
    have k7 : w9.cell? ⟨gs, 7, none⟩ = some (.int .i64 ut) := (unhide HS9).cell 7
    have m0 := (unhide HZ9).cell 0
    have n0 : w9.frozen? ⟨w.heap.size, 0, none⟩ = false := (unhide HZ9).frozen 0
    have m1 := (unhide HZ9).cell 1
    have n1 : w9.frozen? ⟨w.heap.size, 1, none⟩ = false := (unhide HZ9).frozen 1
    have m2 := (unhide HZ9).cell 2
    have n2 : w9.frozen? ⟨w.heap.size, 2, none⟩ = false := (unhide HZ9).frozen 2
    have m3 := (unhide HZ9).cell 3
    have n3 : w9.frozen? ⟨w.heap.size, 3, none⟩ = false := (unhide HZ9).frozen 3
    have m4 := (unhide HZ9).cell 4
    have n4 : w9.frozen? ⟨w.heap.size, 4, none⟩ = false := (unhide HZ9).frozen 4
    have m5 := (unhide HZ9).cell 5
    have n5 : w9.frozen? ⟨w.heap.size, 5, none⟩ = false := (unhide HZ9).frozen 5
    have m6 := (unhide HZ9).cell 6
    have n6 : w9.frozen? ⟨w.heap.size, 6, none⟩ = false := (unhide HZ9).frozen 6
    have m7 := (unhide HZ9).cell 7
    have n7 : w9.frozen? ⟨w.heap.size, 7, none⟩ = false := (unhide HZ9).frozen 7
    go_wp2_with fail
    have HY : Hid (Whl ((((((((w9.setCell ⟨w.heap.size, 0, none⟩ (.int .i64 id)).setCell ⟨w.heap.size, 1, none⟩ (.string nm)).setCell ⟨w.heap.size, 2, none⟩ (.int .i64 px)).setCell ⟨w.heap.size, 3, none⟩ (.int .i64 py)).setCell ⟨w.heap.size, 4, none⟩ (.int .i64 gn)).setCell ⟨w.heap.size, 5, none⟩ (.int .i64 lw)).setCell ⟨w.heap.size, 6, none⟩ (.int .i64 hg)).setCell ⟨w.heap.size, 7, none⟩ (.int .i64 ut)) w.heap.size 26 #[.int .i64 id, .string nm, .int .i64 px, .int .i64 py, .int .i64 gn, .int .i64 lw, .int .i64 hg, .int .i64 ut]) := hide ((unhide HZ9).store8 _ _ _ _ _ _ _ _)
    have HYC : Hid (Cur ((((((((w9.setCell ⟨w.heap.size, 0, none⟩ (.int .i64 id)).setCell ⟨w.heap.size, 1, none⟩ (.string nm)).setCell ⟨w.heap.size, 2, none⟩ (.int .i64 px)).setCell ⟨w.heap.size, 3, none⟩ (.int .i64 py)).setCell ⟨w.heap.size, 4, none⟩ (.int .i64 gn)).setCell ⟨w.heap.size, 5, none⟩ (.int .i64 lw)).setCell ⟨w.heap.size, 6, none⟩ (.int .i64 hg)).setCell ⟨w.heap.size, 7, none⟩ (.int .i64 ut)) g A n c xs (b + 2 + 2 + 2 + 2 + 2 + 8 + 2)) := hide (((((((((unhide HC9).set (p := ⟨w.heap.size, 0, none⟩) hgw _).set (p := ⟨w.heap.size, 1, none⟩) hgw _).set (p := ⟨w.heap.size, 2, none⟩) hgw _).set (p := ⟨w.heap.size, 3, none⟩) hgw _).set (p := ⟨w.heap.size, 4, none⟩) hgw _).set (p := ⟨w.heap.size, 5, none⟩) hgw _).set (p := ⟨w.heap.size, 6, none⟩) hgw _).set (p := ⟨w.heap.size, 7, none⟩) hgw _)
    have HYG : Hid (w.grownBy ((((((((w9.setCell ⟨w.heap.size, 0, none⟩ (.int .i64 id)).setCell ⟨w.heap.size, 1, none⟩ (.string nm)).setCell ⟨w.heap.size, 2, none⟩ (.int .i64 px)).setCell ⟨w.heap.size, 3, none⟩ (.int .i64 py)).setCell ⟨w.heap.size, 4, none⟩ (.int .i64 gn)).setCell ⟨w.heap.size, 5, none⟩ (.int .i64 lw)).setCell ⟨w.heap.size, 6, none⟩ (.int .i64 hg)).setCell ⟨w.heap.size, 7, none⟩ (.int .i64 ut)) (some g)) := hide (grown_set' (grown_set' (grown_set' (grown_set' (grown_set' (grown_set' (grown_set' (grown_set' (unhide HG9) (p := ⟨w.heap.size, 0, none⟩) (Nat.le_refl _) _) (p := ⟨w.heap.size, 1, none⟩) (Nat.le_refl _) _) (p := ⟨w.heap.size, 2, none⟩) (Nat.le_refl _) _) (p := ⟨w.heap.size, 3, none⟩) (Nat.le_refl _) _) (p := ⟨w.heap.size, 4, none⟩) (Nat.le_refl _) _) (p := ⟨w.heap.size, 5, none⟩) (Nat.le_refl _) _) (p := ⟨w.heap.size, 6, none⟩) (Nat.le_refl _) _) (p := ⟨w.heap.size, 7, none⟩) (Nat.le_refl _) _)
    clear k0 m0 n0 k1 m1 n1 k2 m2 n2 k3 m3 n3 k4 m4 n4 k5 m5 n5 k6 m6 n6 k7 m7 n7 HS9 HC9 HG9 HZ9
    generalize ((((((((w9.setCell ⟨w.heap.size, 0, none⟩ (.int .i64 id)).setCell ⟨w.heap.size, 1, none⟩ (.string nm)).setCell ⟨w.heap.size, 2, none⟩ (.int .i64 px)).setCell ⟨w.heap.size, 3, none⟩ (.int .i64 py)).setCell ⟨w.heap.size, 4, none⟩ (.int .i64 gn)).setCell ⟨w.heap.size, 5, none⟩ (.int .i64 lw)).setCell ⟨w.heap.size, 6, none⟩ (.int .i64 hg)).setCell ⟨w.heap.size, 7, none⟩ (.int .i64 ut)) = wz at *
    have y0 : wz.cell? ⟨w.heap.size, 0, none⟩ = some (.int .i64 id) := (unhide HY).cell 0
    have y1 : wz.cell? ⟨w.heap.size, 1, none⟩ = some (.string nm) := (unhide HY).cell 1
    have y2 : wz.cell? ⟨w.heap.size, 2, none⟩ = some (.int .i64 px) := (unhide HY).cell 2
    have y3 : wz.cell? ⟨w.heap.size, 3, none⟩ = some (.int .i64 py) := (unhide HY).cell 3
    have y4 : wz.cell? ⟨w.heap.size, 4, none⟩ = some (.int .i64 gn) := (unhide HY).cell 4
    have y5 : wz.cell? ⟨w.heap.size, 5, none⟩ = some (.int .i64 lw) := (unhide HY).cell 5
    have y6 : wz.cell? ⟨w.heap.size, 6, none⟩ = some (.int .i64 hg) := (unhide HY).cell 6
    have y7 : wz.cell? ⟨w.heap.size, 7, none⟩ = some (.int .i64 ut) := (unhide HY).cell 7
    have x0 : wz.frozen? ⟨w.heap.size, 0, none⟩ = false := (unhide HY).frozen 0
    have x1 : wz.frozen? ⟨w.heap.size, 1, none⟩ = false := (unhide HY).frozen 1
    have x2 : wz.frozen? ⟨w.heap.size, 2, none⟩ = false := (unhide HY).frozen 2
    have x3 : wz.frozen? ⟨w.heap.size, 3, none⟩ = false := (unhide HY).frozen 3
    have x4 : wz.frozen? ⟨w.heap.size, 4, none⟩ = false := (unhide HY).frozen 4
    have x5 : wz.frozen? ⟨w.heap.size, 5, none⟩ = false := (unhide HY).frozen 5
    have x6 : wz.frozen? ⟨w.heap.size, 6, none⟩ = false := (unhide HY).frozen 6
    have x7 : wz.frozen? ⟨w.heap.size, 7, none⟩ = false := (unhide HY).frozen 7
    go_wp2_with fail
    refine bodyPost_ret (v := .agg #[.int .i64 id, .string nm, .int .i64 px, .int .i64 py, .int .i64 gn, .int .i64 lw, .int .i64 hg, .int .i64 ut]) (by simp [results, Try.results108, go_sem, y0, x0, y1, x1, y2, x2, y3, x3, y4, x4, y5, x5, y6, x6, y7, x7]) rfl ?_
    exact ⟨⟨id, nm, px, py, gn, lw, hg, ut⟩, rfl, hnm, (unhide HYC).more (by omega), unhide HYG⟩
end Go.Proofs.Ytihkocplgciifaa
