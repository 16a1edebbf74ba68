/- Chapter 3, the walks: the speed of counts; the laws' helpers on one station. (By gen_stLaw.py.) -/
import Derived.Test.YtihkocplgciifaaProg
import Derived.Test.YtihkocplgciifaaStA
import Derived.Test.YtihkocplgciifaaFrac
import Derived.Test.YtihkocplgciifaaAbove
import Derived.WalkLawsBesides
namespace Go.Proofs.Ytihkocplgciifaa
open Go.RowKit

theorem below_next {w a b : World} (h : Below w.heap.size w a) (hb : Below a.heap.size a b) : Below w.heap.size w b := h.trans (hb.mono h.size)
/-- a block of eight cells, as it stands -/
structure Box8 (w : World) (g : Nat) (a b c d e f h i : Value) : Prop where
  s : g < w.heap.size
  c0 : w.cell? ⟨g, 0, none⟩ = some a
  c1 : w.cell? ⟨g, 1, none⟩ = some b
  c2 : w.cell? ⟨g, 2, none⟩ = some c
  c3 : w.cell? ⟨g, 3, none⟩ = some d
  c4 : w.cell? ⟨g, 4, none⟩ = some e
  c5 : w.cell? ⟨g, 5, none⟩ = some f
  c6 : w.cell? ⟨g, 6, none⟩ = some h
  c7 : w.cell? ⟨g, 7, none⟩ = some i
theorem Box8.here (w : World) (a b c d e f h i : Value) (T : TypeId) : Box8 (w.alloc (.cells #[a, b, c, d, e, f, h, i] T)) w.heap.size a b c d e f h i :=
  ⟨by simp, by simp, by simp, by simp, by simp, by simp, by simp, by simp, by simp⟩
theorem Box8.next {w w' : World} {g : Nat} {a b c d e f h i : Value} (k : Box8 w g a b c d e f h i) (hb : Below w.heap.size w w') : Box8 w' g a b c d e f h i :=
  ⟨Nat.lt_of_lt_of_le k.s hb.size, (hb.cell (p := ⟨g, 0, none⟩) k.s).trans k.c0, (hb.cell (p := ⟨g, 1, none⟩) k.s).trans k.c1, (hb.cell (p := ⟨g, 2, none⟩) k.s).trans k.c2, (hb.cell (p := ⟨g, 3, none⟩) k.s).trans k.c3,
   (hb.cell (p := ⟨g, 4, none⟩) k.s).trans k.c4, (hb.cell (p := ⟨g, 5, none⟩) k.s).trans k.c5, (hb.cell (p := ⟨g, 6, none⟩) k.s).trans k.c6, (hb.cell (p := ⟨g, 7, none⟩) k.s).trans k.c7⟩
/-- what is left of a size -/
def szI (left : Int) (n : Nat) : Int := if left - n < 0 then -1 else left - n

theorem szStation_any (id : Int) (nm : ByteArray) (x y gn lw hg ut : Int) (left : Int) (w : World) (h0 : 0 ≤ left) (h1 : left ≤ 1048576) (hs : nm.size ≤ 9223372036854775807) :
    Calls Try.prog 15 #[.agg #[.int .i64 id, .string nm, .int .i64 x, .int .i64 y, .int .i64 gn, .int .i64 lw, .int .i64 hg, .int .i64 ut], .int .i64 left] w fun e w' => e = .returned (.int .i64 (szI left nm.size)) ∧ Below w.heap.size w w' := by
  have B0 := hide ((Below.refl _ w).alloc (Nat.le_refl _) (.cells #[.int .i64 id, .string nm, .int .i64 x, .int .i64 y, .int .i64 gn, .int .i64 lw, .int .i64 hg, .int .i64 ut] 23))
  by_cases h : left - nm.size < 0
  · have e : Hid (szI left nm.size = -1) := by unfold Hid szI; rw [if_pos h]
    go_enter Try.func15, Try.ntmps15
    go_wp2
    go_ret
    exact ⟨ret_int (unhide e).symm, unhide B0⟩
  · have e : Hid (szI left nm.size = left - nm.size) := by unfold Hid szI; rw [if_neg h]
    go_enter Try.func15, Try.ntmps15
    go_wp2
    go_ret
    exact ⟨ret_int (unhide e).symm, unhide B0⟩

set_option maxHeartbeats 1000000 in
theorem toStation_any (id : Int) (nm : ByteArray) (x y gn lw hg ut : Int) (w : World) :
    Calls Try.prog 17 #[.agg #[.int .i64 id, .string nm, .int .i64 x, .int .i64 y, .int .i64 gn, .int .i64 lw, .int .i64 hg, .int .i64 ut]] w fun e w' => e = .returned (.agg #[.int .i64 id, .string nm, .int .i64 x, .int .i64 y, .int .i64 gn, .int .i64 lw, .int .i64 hg, .int .i64 ut]) ∧ Below w.heap.size w w' := by
  go_enter Try.func17, Try.ntmps17
  go_wp2
  refine bodyPost_ret (v := .agg #[.int .i64 id, .string nm, .int .i64 x, .int .i64 y, .int .i64 gn, .int .i64 lw, .int .i64 hg, .int .i64 ut]) (by simp [results, Try.results17, go_sem]) rfl ⟨rfl, ?_⟩
  repeat (first | exact Below.refl _ _ | refine Below.setCell ?_ (by simp <;> omega) _ | refine Below.alloc ?_ (by simp <;> omega) _)

/-- two ints and a bool come back -/
def RetNNB (w : World) (r q : Int) (b : Bool) (e : Ending) (w' : World) : Prop := e = .returned (.tuple #[.int .i64 r, .int .i64 q, .bool b]) ∧ Below w.heap.size w w'
/-- the speed in lowest terms, whether there is one -/
def spdR (id : Int) (nm : ByteArray) (x y gn lw hg ut : Int) (n : Int) : Int × Int × Bool := if (stB id nm x y gn lw hg ut && inB n (-100000) 100000) = true then (n.tdiv (Int.gcd n gn : Nat), gn.tdiv (Int.gcd n gn : Nat), true) else (0, 0, false)

theorem tdiv_abs (n : Int) (g : Nat) : (max n (-n)).tdiv (g : Int) = if n < 0 then -(n.tdiv (g : Int)) else n.tdiv (g : Int) := by
  split
  · rw [show max n (-n) = -n by omega, Int.neg_tdiv]
  · rw [show max n (-n) = n by omega]

set_option maxHeartbeats 2000000 in
set_option maxRecDepth 100000 in
theorem implSpeedOf_any (id : Int) (nm : ByteArray) (x y gn lw hg ut : Int) (n : Int) (w : World) (hs : nm.size ≤ 9223372036854775807) :
    Calls Try.prog 25 #[.agg #[.int .i64 id, .string nm, .int .i64 x, .int .i64 y, .int .i64 gn, .int .i64 lw, .int .i64 hg, .int .i64 ut], .int .i64 n] w (RetNNB w (spdR id nm x y gn lw hg ut n).1 (spdR id nm x y gn lw hg ut n).2.1 (spdR id nm x y gn lw hg ut n).2.2) := by
  have HC := hide (implIsStation_any id nm x y gn lw hg ut (w.alloc (.cells #[.int .i64 id, .string nm, .int .i64 x, .int .i64 y, .int .i64 gn, .int .i64 lw, .int .i64 hg, .int .i64 ut] 26)) hs)
  have T0 := hide (Box8.here w (.int .i64 id) (.string nm) (.int .i64 x) (.int .i64 y) (.int .i64 gn) (.int .i64 lw) (.int .i64 hg) (.int .i64 ut) 26)
  have B0 := hide ((Below.refl _ w).alloc (Nat.le_refl _) (.cells #[.int .i64 id, .string nm, .int .i64 x, .int .i64 y, .int .i64 gn, .int .i64 lw, .int .i64 hg, .int .i64 ut] 26))
  rcases h1 : stB id nm x y gn lw hg ut with _ | _
  · have HRR : Hid (spdR id nm x y gn lw hg ut n = (0, 0, false)) := by unfold Hid spdR; rw [h1]; rfl
    go_enter Try.func25, Try.ntmps25
    go_wp2_with fail
    rw [h1] at HC
    refine (unhide HC).mono ?_
    rintro e w1 ⟨rfl, hb⟩
    obtain ⟨s0, c0, c1, c2, c3, c4, c5, c6, c7⟩ := (unhide T0).next hb
    have HB1 := hide ((unhide B0).trans (hb.mono (by simp)))
    clear hb
    go_wp2_with fail
    go_ret3
    exact ⟨by rw [unhide HRR]; rfl, unhide HB1⟩
  · obtain ⟨_, _, _, _, ⟨g0, g1⟩, _, _⟩ := stB_parts h1
    rcases h2 : inB n (-100000) 100000 with _ | _
    · have HRR : Hid (spdR id nm x y gn lw hg ut n = (0, 0, false)) := by unfold Hid spdR; rw [h1, h2]; rfl
      go_enter Try.func25, Try.ntmps25
      go_wp2_with fail
      rw [h1] at HC
      refine (unhide HC).mono ?_
      rintro e w1 ⟨rfl, hb⟩
      obtain ⟨s0, c0, c1, c2, c3, c4, c5, c6, c7⟩ := (unhide T0).next hb
      have HB1 := hide ((unhide B0).trans (hb.mono (by simp)))
      clear hb
      go_wp2_with fail
      refine (in_any n _ _ _).mono ?_
      rintro e w9 ⟨rfl, rfl⟩
      rw [h2]
      go_wp2_with fail
      go_ret3
      exact ⟨by rw [unhide HRR]; rfl, unhide HB1⟩
    · obtain ⟨n0, n1⟩ := inB_iff.1 h2
      have HRR : Hid (spdR id nm x y gn lw hg ut n = (n.tdiv (Int.gcd n gn : Nat), gn.tdiv (Int.gcd n gn : Nat), true)) := by unfold Hid spdR; rw [h1, h2]; rfl
      have HF := hide (fun W => fraction_any n gn W (by omega) (by omega))
      go_enter Try.func25, Try.ntmps25
      go_wp2_with fail
      rw [h1] at HC
      refine (unhide HC).mono ?_
      rintro e w1 ⟨rfl, hb⟩
      obtain ⟨s0, c0, c1, c2, c3, c4, c5, c6, c7⟩ := (unhide T0).next hb
      have HB1 := hide ((unhide B0).trans (hb.mono (by simp)))
      clear hb
      go_wp2_with fail
      refine (in_any n _ _ _).mono ?_
      rintro e w9 ⟨rfl, rfl⟩
      rw [h2]
      go_wp2_with fail
      refine (unhide HF _).mono ?_
      rintro e w2 ⟨rfl, hb⟩
      have HB2 := hide (below_next (unhide HB1) hb)
      clear hb
      go_wp2_with fail
      go_ret3
      exact ⟨by rw [unhide HRR]; rfl, unhide HB2⟩

set_option maxHeartbeats 2000000 in
set_option maxRecDepth 100000 in
theorem specSpeedOf_any (id : Int) (nm : ByteArray) (x y gn lw hg ut : Int) (n : Int) (w : World) (hs : nm.size ≤ 9223372036854775807) :
    Calls Try.prog 24 #[.agg #[.int .i64 id, .string nm, .int .i64 x, .int .i64 y, .int .i64 gn, .int .i64 lw, .int .i64 hg, .int .i64 ut], .int .i64 n] w (RetNNB w (spdR id nm x y gn lw hg ut n).1 (spdR id nm x y gn lw hg ut n).2.1 (spdR id nm x y gn lw hg ut n).2.2) := by
  have HC := hide (l3One_any id nm x y gn lw hg ut (w.alloc (.cells #[.int .i64 id, .string nm, .int .i64 x, .int .i64 y, .int .i64 gn, .int .i64 lw, .int .i64 hg, .int .i64 ut] 26)) hs)
  have T0 := hide (Box8.here w (.int .i64 id) (.string nm) (.int .i64 x) (.int .i64 y) (.int .i64 gn) (.int .i64 lw) (.int .i64 hg) (.int .i64 ut) 26)
  have B0 := hide ((Below.refl _ w).alloc (Nat.le_refl _) (.cells #[.int .i64 id, .string nm, .int .i64 x, .int .i64 y, .int .i64 gn, .int .i64 lw, .int .i64 hg, .int .i64 ut] 26))
  rcases h1 : stB id nm x y gn lw hg ut with _ | _
  · have HRR : Hid (spdR id nm x y gn lw hg ut n = (0, 0, false)) := by unfold Hid spdR; rw [h1]; rfl
    go_enter Try.func24, Try.ntmps24
    go_wp2_with fail
    rw [h1] at HC
    refine (unhide HC).mono ?_
    rintro e w1 ⟨rfl, hb⟩
    obtain ⟨s0, c0, c1, c2, c3, c4, c5, c6, c7⟩ := (unhide T0).next hb
    have HB1 := hide ((unhide B0).trans (hb.mono (by simp)))
    clear hb
    go_wp2_with fail
    go_ret3
    exact ⟨by rw [unhide HRR]; rfl, unhide HB1⟩
  · obtain ⟨_, _, _, _, ⟨g0, g1⟩, _, _⟩ := stB_parts h1
    rcases h2 : inB n (-100000) 100000 with _ | _
    · have HRR : Hid (spdR id nm x y gn lw hg ut n = (0, 0, false)) := by unfold Hid spdR; rw [h1, h2]; rfl
      go_enter Try.func24, Try.ntmps24
      go_wp2_with fail
      rw [h1] at HC
      refine (unhide HC).mono ?_
      rintro e w1 ⟨rfl, hb⟩
      obtain ⟨s0, c0, c1, c2, c3, c4, c5, c6, c7⟩ := (unhide T0).next hb
      have HB1 := hide ((unhide B0).trans (hb.mono (by simp)))
      clear hb
      go_wp2_with fail
      refine (l1In_any n _ _ _).mono ?_
      rintro e w9 ⟨rfl, rfl⟩
      rw [h2]
      go_wp2_with fail
      go_ret3
      exact ⟨by rw [unhide HRR]; rfl, unhide HB1⟩
    · obtain ⟨n0, n1⟩ := inB_iff.1 h2
      have HRR : Hid (spdR id nm x y gn lw hg ut n = (n.tdiv (Int.gcd n gn : Nat), gn.tdiv (Int.gcd n gn : Nat), true)) := by unfold Hid spdR; rw [h1, h2]; rfl
      have hg : Int.gcd (max n (-n)) gn = Int.gcd n gn := by unfold Int.gcd; rw [show (max n (-n)).natAbs = n.natAbs by omega]
      have HM := hide (fun W => l1Most_any n (-n) W)
      have HF := hide (fun W => l2Reduce_any (max n (-n)) gn W (by omega) (by omega))
      unfold RetFr at HF
      rw [hg] at HF
      have hgp : 0 < Int.gcd n gn := gcd_pos (by omega)
      have hq := tdiv_abs n (Int.gcd n gn)
      have hqb : -100000 ≤ n.tdiv (Int.gcd n gn : Nat) ∧ n.tdiv (Int.gcd n gn : Nat) ≤ 100000 := by have := Int.natAbs_tdiv_le_natAbs n (Int.gcd n gn : Nat); omega
      obtain ⟨M, hM⟩ : ∃ M, M = max n (-n) := ⟨_, rfl⟩
      rw [← hM] at HM HF hq
      have sm : IntKind.i64.wrap (-n) = -n := IntWalk.i64_in _ (by omega)
      clear hg
      generalize Int.gcd n gn = g at *
      obtain ⟨q0, q1⟩ := hqb
      have HQ := hide hq
      clear hq hM
      go_enter Try.func24, Try.ntmps24
      go_wp2_with fail
      rw [h1] at HC
      refine (unhide HC).mono ?_
      rintro e w1 ⟨rfl, hb⟩
      obtain ⟨s0, c0, c1, c2, c3, c4, c5, c6, c7⟩ := (unhide T0).next hb
      have HB1 := hide ((unhide B0).trans (hb.mono (by simp)))
      clear hb
      go_wp2_with fail
      refine (l1In_any n _ _ _).mono ?_
      rintro e w9 ⟨rfl, rfl⟩
      rw [h2]
      go_wp2_with fail
      have p4 : ∀ s : Abv w1, s.w.cell? ⟨w.heap.size, 4, none⟩ = some (.int .i64 gn) := Abv.cell s0 c4
      refine wp_region_abv w1 (by kernel_rfl) (by kernel_rfl) (Below.refl _ _) ?_
      repeat (go_big_quiet_step ((first | (go_at_call 77; exact Calls.abv_same (unhide HM _)) | (go_at_call 76; exact Calls.abv (unhide HF _)))))
      refine wpQuiet_nil ?_
      intro _ hw'
      obtain ⟨sv, hw''⟩ := hw'
      subst hw''
      clear sm
      rcases hn : decide (n < 0) with _ | _
      · have eq : Hid (M.tdiv (g : Int) = n.tdiv (g : Int)) := by have h9 := of_decide_eq_false hn; have := unhide HQ; rw [if_neg h9] at this; exact this
        go_wp2_with fail
        go_ret3
        exact ⟨by rw [unhide HRR]; first | rfl | (rw [← unhide eq]; rfl), below_next (unhide HB1) sv.h⟩
      · have eq : Hid (M.tdiv (g : Int) = -(n.tdiv (g : Int))) := by have h9 := of_decide_eq_true hn; have := unhide HQ; rw [if_pos h9] at this; exact this
        rw [unhide eq]
        have sm : IntKind.i64.wrap (- -(n.tdiv (g : Int))) = n.tdiv (g : Int) := by rw [Int.neg_neg]; exact IntWalk.i64_in _ (by omega)
        have sm2 : IntKind.i64.wrap (n.tdiv (g : Int)) = n.tdiv (g : Int) := IntWalk.i64_in _ (by omega)
        go_wp2_with fail
        go_ret3
        exact ⟨by rw [unhide HRR]; rfl, below_next (unhide HB1) sv.h⟩

end Go.Proofs.Ytihkocplgciifaa
