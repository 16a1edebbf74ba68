/- slices.SortStableFunc at stations, twenty at most: one insertion sort. (By gen_sortS.py.) -/
import Derived.Test.YtihkocplgciifaaProg
import Derived.Test.YtihkocplgciifaaCmpN
import Derived.Test.YtihkocplgciifaaIsort
import Derived.Test.YtihkocplgciifaaAbove
import Derived.BigRegion
namespace Go.Proofs.Ytihkocplgciifaa
open Go.RowKit

theorem OwnS.el {w : World} {lo g n c j : Nat} {xs : List St} (h : OwnS w lo (some ⟨g, 0, none⟩) n c xs) (hj : j < n) :
    ∃ s, Hid (xs[j]? = some s) ∧ Row8 w ⟨g, j * 8, none⟩ s ∧ ∀ i, w.frozen? ⟨g, i, none⟩ = false := by
  have hl := h.len
  have hl' : j < xs.length := by omega
  obtain ⟨g', hg, _, _, hr, hf, _, _⟩ := h.store hj zSt
  obtain rfl : g = g' := by simpa using hg
  refine ⟨xs[j], List.getElem?_eq_getElem hl', ?_, hf⟩
  have e : xs.getD j zSt = xs[j] := by rw [List.getD_eq_getElem?_getD, List.getElem?_eq_getElem hl']; rfl
  rw [← e]
  exact hr
theorem OwnS.swap {w : World} {lo g n c i j : Nat} {xs : List St} {x y : St} (h : OwnS w lo (some ⟨g, 0, none⟩) n c xs) (hi : i < n) (hj : j < n) (hx : xs[i]? = some x) (hy : xs[j]? = some y) :
    OwnS (put8 (put8 w g i y) g j x) lo (some ⟨g, 0, none⟩) n c (swp xs i j) ∧ w.grownBy (put8 (put8 w g i y) g j x) (some g) := by
  obtain ⟨g1, hg1, _, _, _, _, h1, r1⟩ := h.store hi y
  obtain rfl : g = g1 := by simpa using hg1
  obtain ⟨g2, hg2, _, _, _, _, h2, r2⟩ := h1.store hj x
  obtain rfl : g = g2 := by simpa using hg2
  rw [swp_of hx hy]
  exact ⟨h2, grownBy_trans r1 r2⟩
/-- the row is the same but for what the sort does between a and b -/
def RetSrtS (X Y : Int) (w : World) (lo g n c : Nat) (xs : List St) (a b : Nat) (e : Ending) (w' : World) : Prop := ∃ ys, e = .returned (.tuple #[]) ∧ OwnS w' lo (some ⟨g, 0, none⟩) n c ys ∧ w.grownBy w' (some g) ∧ SR (sqK X Y) a b xs ys ∧ Srt (sqK X Y) a b ys
theorem grown_abvS {w w' : World} {g : Nat} (h : w.grownBy w' (some g)) (s : Abv w') : w.grownBy s.w (some g) :=
  ⟨s.h.os.trans h.os, s.h.tape.trans h.tape, s.h.output.trans h.output, Nat.le_trans h.size s.h.size, fun k hk hn => (s.h.block k (Nat.lt_of_lt_of_le hk h.size)).trans (h.block k hk hn)⟩
theorem grown_drS {a b : World} {row : Option Nat} (h : a.drew.grownBy b row) : a.grownBy b row := ⟨h.os, h.tape, h.output, h.size, h.block⟩
theorem grown_todrS {a b : World} {row : Option Nat} (h : a.grownBy b row) : a.grownBy b.drew row := ⟨h.os, h.tape, h.output, h.size, h.block⟩
theorem grown_drNS {a b : World} {row : Option Nat} (n : Nat) (h : (a.drewN n).grownBy b row) : a.grownBy b row := ⟨h.os, h.tape, h.output, h.size, h.block⟩
theorem OwnS.todr {w : World} {lo n c : Nat} {A : Option Addr} {xs : List St} (h : OwnS w lo A n c xs) : OwnS w.drew lo A n c xs := h
/-- a cell in another block stays -/
theorem grown_cell {w W : World} {g : Nat} (h : w.grownBy W (some g)) {p : Addr} {v : Value} (hne : p.block ≠ g) (hc : w.cell? p = some v) : W.cell? p = some v := by
  have hl := World.block_lt_of_cell? w p hc
  have := h.block p.block hl (fun e => hne (Option.some.inj e))
  rw [← hc]
  unfold World.cell?
  rw [this]

set_option maxHeartbeats 8000000 in
set_option maxRecDepth 100000 in
theorem insSortS (X Y : Int) (p1 p2 : Addr) (lo g n c : Nat) (xs : List St) (a b : Nat) (w : World) (h : OwnS w lo (some ⟨g, 0, none⟩) n c xs) (hab : a ≤ b) (hb : b ≤ n) (hn : n ≤ 4194304)
    (hcmp : ∀ (W : World), w.grownBy W (some g) → ∀ (s t : St), Calls Try.prog 83 #[.agg #[.int .i64 s.id, .string s.nm, .int .i64 s.x, .int .i64 s.y, .int .i64 s.gn, .int .i64 s.lw, .int .i64 s.hg, .int .i64 s.ut], .agg #[.int .i64 t.id, .string t.nm, .int .i64 t.x, .int .i64 t.y, .int .i64 t.gn, .int .i64 t.lw, .int .i64 t.hg, .int .i64 t.ut], .pointer (some p1), .pointer (some p2)] W fun e w' => e = .returned (.int .i64 (cmpI (sqK X Y s) (sqK X Y t))) ∧ Below W.heap.size W w') :
    Calls Try.prog 119 #[.slice (some ⟨g, 0, none⟩) n c, .int .i64 a, .int .i64 b, .func (.func 83) #[] #[.pointer (some p1), .pointer (some p2)]] w (RetSrtS X Y w lo g n c xs a b) := by
  have HO := hide h
  have HCMP := hide hcmp
  clear h hcmp
  go_enter Try.func119, Try.ntmps119
  go_wp2
  go_loopw [8] (fun i wr => ∃ (k : Nat) (ys : List St), a + 1 ≤ k ∧ (k ≤ b ∨ k = a + 1) ∧ i = .int .i64 k ∧ Hid (OwnS wr lo (some ⟨g, 0, none⟩) n c ys) ∧ Hid (w.grownBy wr (some g)) ∧ Hid (SR (sqK X Y) a b xs ys) ∧ Hid (Srt (sqK X Y) a k ys)) (fun i _ => b - (intOf i).toNat)
  case atStart => exact ⟨a + 1, xs, by omega, by omega, by go_num, HO, World.grownBy.refl _ _, SR.refl _ _ _, Srt.none_ (by omega)⟩
  case round =>
    obtain ⟨k, ys, hk1, hk2, rfl, hO, hG, hS, hT⟩ := hrel
    by_cases hlt : k < b
    · obtain ⟨wo, rfl⟩ : ∃ wo : World, wo = wr := ⟨_, rfl⟩
      go_wp2_with fail
      go_loopw [9] (fun j wj => ∃ (q : Nat) (zs : List St), a ≤ q ∧ q ≤ k ∧ j = .int .i64 q ∧ Hid (OwnS wj lo (some ⟨g, 0, none⟩) n c zs) ∧ Hid (w.grownBy wj (some g)) ∧ Hid (SR (sqK X Y) a b xs zs) ∧ Hid (Ins (sqK X Y) a q k zs)) (fun j _ => (intOf j).toNat)
      case atStart => exact ⟨k, ys, by omega, by omega, rfl, hO, hG, hS, Ins.start (unhide hT)⟩
      case round =>
        obtain ⟨q, zs, hq1, hq2, rfl, hO, hG, hS, hI⟩ := hrel
        have hlen := (unhide hO).len
        by_cases hqa : q = a
        · have l1 : decide (a < q) = false := decide_eq_false (by omega)
          have l2 : ¬ a < q := by omega
          have HT2 : Hid (Srt (sqK X Y) a (k + 1) zs) := (unhide hI).end_ hq1 hq2 (fun x y h9 => by omega) (by omega)
          clear hlen hqa hI
          go_wp2_with fail
          go_quiet (fail)
          go_wp2_with fail
          go_roundw
          case rel => exact ⟨k + 1, zs, by omega, by omega, by go_num, (unhide hO).below (below_drewN (Below.refl _ _) _) (Nat.le_refl _), ⟨(unhide hG).os, (unhide hG).tape, (unhide hG).output, (unhide hG).size, (unhide hG).block⟩, hS, HT2⟩
          case measure => simp [intOf]; omega
        · obtain ⟨r, rfl⟩ : ∃ r, q = r + 1 := ⟨q - 1, by omega⟩
          have hqr : a ≤ r := by omega
          obtain ⟨x, hx, hrx, hfx⟩ := (unhide hO).el (j := r) (by omega)
          obtain ⟨y, hy, hry, _⟩ := (unhide hO).el (j := r + 1) (by omega)
          have hgz : g < wr.heap.size := ((unhide hO).form (by omega)).elim fun g' h9 => by obtain ⟨h8, _, h7, _⟩ := h9; injection h8 with h8; injection h8 with h8; omega
          have PX := hide (fun s : Abv wr => hrx.abv hgz s)
          have PY := hide (fun s : Abv wr => hry.abv hgz s)
          have HC := hide (fun s : Abv wr => unhide HCMP s.w (grown_abvS (unhide hG) s) y x)
          have l1 : decide ((a : Int) < (r : Int) + 1) = true := decide_eq_true (by omega)
          have l3 : (r : Int) < (n : Int) := by omega
          have l4 : (0 : Int) ≤ (r : Int) := by omega
          have l5 : (r : Int) + 1 < (n : Int) := by omega
          have l6 : (0 : Int) ≤ (r : Int) + 1 := by omega
          have HS1 : Hid (IntKind.i64.wrap ((r : Int) + 1 - 1) = (r : Int)) := by unfold Hid; rw [Int.add_sub_cancel]; exact IntWalk.i64_in _ (by omega)
          have HF := hide (fun (s : Abv wr) (i : Nat) => (s.h.frozen (p := ⟨g, i, none⟩) hgz).trans (hfx i))
          clear hrx hry hfx hqa
          rcases hd : decide (sqK X Y y < sqK X Y x) with _ | _
          · have hX : decide (cmpI (sqK X Y y) (sqK X Y x) < 0) = false := by
              have h9 := of_decide_eq_false hd
              unfold cmpI
              exact decide_eq_false (by split <;> (try split) <;> omega)
            have HT2 : Hid (Srt (sqK X Y) a (k + 1) zs) := (unhide hI).end_ hq1 hq2 (fun x' y' h9 ex ey => by
              rw [show r + 1 - 1 = r by omega, unhide hx] at ex
              rw [unhide hy] at ey
              cases ex
              cases ey
              have := of_decide_eq_false hd
              omega) (by omega)
            generalize cmpI (sqK X Y y) (sqK X Y x) = u at HC hX
            clear hd hx hy hI hlen HF
            have s1 := unhide HS1
            have px := unhide PX
            have py := unhide PY
            have px0 := fun s : Abv wr => (px s).c0
            have px1 := fun s : Abv wr => (px s).c1
            have px2 := fun s : Abv wr => (px s).c2
            have px3 := fun s : Abv wr => (px s).c3
            have px4 := fun s : Abv wr => (px s).c4
            have px5 := fun s : Abv wr => (px s).c5
            have px6 := fun s : Abv wr => (px s).c6
            have px7 := fun s : Abv wr => (px s).c7
            have py0 := fun s : Abv wr => (py s).c0
            have py1 := fun s : Abv wr => (py s).c1
            have py2 := fun s : Abv wr => (py s).c2
            have py3 := fun s : Abv wr => (py s).c3
            have py4 := fun s : Abv wr => (py s).c4
            have py5 := fun s : Abv wr => (py s).c5
            have py6 := fun s : Abv wr => (py s).c6
            have py7 := fun s : Abv wr => (py s).c7
            clear px py
            go_wp2_with fail
            refine wp_region_abv wr (by kernel_rfl) (by kernel_rfl) (Below.refl _ _) ?_
            repeat (go_big_quiet_step ((first | (go_at_call 83; exact Calls.abv (unhide HC _)))))
            refine wpQuiet_nil ?_
            intro _ hw'
            obtain ⟨s, hw''⟩ := hw'
            subst hw''
            go_wp2_with fail
            go_roundw
            case rel => exact ⟨k + 1, zs, by omega, by omega, by go_num, (unhide hO).below s.h (Nat.le_refl _), grown_abvS (unhide hG) s, hS, HT2⟩
            case measure => simp [intOf]; omega
          · have hX : decide (cmpI (sqK X Y y) (sqK X Y x) < 0) = true := by
              have h9 := of_decide_eq_true hd
              unfold cmpI
              exact decide_eq_true (by split <;> (try split) <;> omega)
            have hyx : sqK X Y y < sqK X Y x := of_decide_eq_true hd
            have HS2 := hide ((unhide hS).trans (SR.sink (a := a) (b := b) (by omega) (by omega) (unhide hx) (unhide hy) hyx))
            have HI2 := hide ((unhide hI).swap (by omega) (by omega) (unhide hx) (unhide hy) hyx)
            have HSW := hide (fun (W : World) (hO : OwnS W lo (some ⟨g, 0, none⟩) n c zs) => hO.swap (i := r + 1) (j := r) (by omega) (by omega) (unhide hy) (unhide hx))
            generalize cmpI (sqK X Y y) (sqK X Y x) = u at HC hX
            clear hd hx hy hI hlen hS hyx
            have s1 := unhide HS1
            have px := unhide PX
            have py := unhide PY
            have px0 := fun s : Abv wr => (px s).c0
            have px1 := fun s : Abv wr => (px s).c1
            have px2 := fun s : Abv wr => (px s).c2
            have px3 := fun s : Abv wr => (px s).c3
            have px4 := fun s : Abv wr => (px s).c4
            have px5 := fun s : Abv wr => (px s).c5
            have px6 := fun s : Abv wr => (px s).c6
            have px7 := fun s : Abv wr => (px s).c7
            have py0 := fun s : Abv wr => (py s).c0
            have py1 := fun s : Abv wr => (py s).c1
            have py2 := fun s : Abv wr => (py s).c2
            have py3 := fun s : Abv wr => (py s).c3
            have py4 := fun s : Abv wr => (py s).c4
            have py5 := fun s : Abv wr => (py s).c5
            have py6 := fun s : Abv wr => (py s).c6
            have py7 := fun s : Abv wr => (py s).c7
            clear px py
            go_wp2_with fail
            refine wp_region_abv wr (by kernel_rfl) (by kernel_rfl) (Below.refl _ _) ?_
            repeat (go_big_quiet_step ((first | (go_at_call 83; exact Calls.abv (unhide HC _)))))
            refine wpQuiet_nil ?_
            intro _ hw'
            obtain ⟨s, hw''⟩ := hw'
            subst hw''
            clear px0 py0 px1 py1 px2 py2 px3 py3 px4 py4 px5 py5 px6 py6 px7 py7
            have hrx := unhide PX s
            have hry := unhide PY s
            have hf := unhide HF s
            have HOs := hide ((unhide hO).below s.h (Nat.le_refl _))
            have HGs := hide (grown_abvS (unhide hG) s)
            clear PX PY HF
            generalize s.w = ws at hrx hry hf HOs HGs ⊢
            have c0 := (hrx).c0
            have c1 := (hrx).c1
            have c2 := (hrx).c2
            have c3 := (hrx).c3
            have c4 := (hrx).c4
            have c5 := (hrx).c5
            have c6 := (hrx).c6
            have c7 := (hrx).c7
            have d0 := (hry).c0
            have d1 := (hry).c1
            have d2 := (hry).c2
            have d3 := (hry).c3
            have d4 := (hry).c4
            have d5 := (hry).c5
            have d6 := (hry).c6
            have d7 := (hry).c7
            have f0 := hf (r * 8)
            have f1 := hf (r * 8 + 1)
            have f2 := hf (r * 8 + 2)
            have f3 := hf (r * 8 + 3)
            have f4 := hf (r * 8 + 4)
            have f5 := hf (r * 8 + 5)
            have f6 := hf (r * 8 + 6)
            have f7 := hf (r * 8 + 7)
            have g0 := hf ((r + 1) * 8)
            have g1 := hf ((r + 1) * 8 + 1)
            have g2 := hf ((r + 1) * 8 + 2)
            have g3 := hf ((r + 1) * 8 + 3)
            have g4 := hf ((r + 1) * 8 + 4)
            have g5 := hf ((r + 1) * 8 + 5)
            have g6 := hf ((r + 1) * 8 + 6)
            have g7 := hf ((r + 1) * 8 + 7)
            clear hrx hry hf hgz hO hG HC hX
            go_wp2_with fail
            go_region
            all_goals
              clear s1
              go_wp2_with fail
              go_roundw
              case rel => exact ⟨r, swp zs (r + 1) r, by omega, by omega, rfl, OwnS.todr (unhide HSW _ (unhide HOs)).1, grown_todrS (grownBy_trans (unhide HGs) (unhide HSW _ (unhide HOs)).2), HS2, HI2⟩
              case measure => simp [intOf] <;> omega
    · go_wp2
      go_end0
      exact ⟨ys, rfl, unhide hO, unhide hG, unhide hS, (unhide hT).less (Nat.le_refl _) (by omega)⟩
set_option maxHeartbeats 4000000 in
set_option maxRecDepth 100000 in
theorem stableS (X Y : Int) (p1 p2 : Addr) (lo g n c : Nat) (xs : List St) (w : World) (h : OwnS w lo (some ⟨g, 0, none⟩) n c xs) (hn : n < 20)
    (hcmp : ∀ (W : World), w.grownBy W (some g) → ∀ (s t : St), Calls Try.prog 83 #[.agg #[.int .i64 s.id, .string s.nm, .int .i64 s.x, .int .i64 s.y, .int .i64 s.gn, .int .i64 s.lw, .int .i64 s.hg, .int .i64 s.ut], .agg #[.int .i64 t.id, .string t.nm, .int .i64 t.x, .int .i64 t.y, .int .i64 t.gn, .int .i64 t.lw, .int .i64 t.hg, .int .i64 t.ut], .pointer (some p1), .pointer (some p2)] W fun e w' => e = .returned (.int .i64 (cmpI (sqK X Y s) (sqK X Y t))) ∧ Below W.heap.size W w') :
    Calls Try.prog 112 #[.slice (some ⟨g, 0, none⟩) n c, .int .i64 n, .func (.func 83) #[] #[.pointer (some p1), .pointer (some p2)]] w (RetSrtS X Y w lo g n c xs 0 n) := by
  have HC := hide (insSortS X Y p1 p2 lo g n c xs 0 n w h (Nat.zero_le _) (Nat.le_refl _) (by omega) hcmp)
  clear h hcmp
  go_enter Try.func112, Try.ntmps112
  go_wp2_with fail
  go_loopw [7, 8] (fun a b wr => a = .int .i64 0 ∧ b = .int .i64 20 ∧ wr = w) (fun _ _ _ => 0)
  case atStart => exact ⟨rfl, rfl, rfl⟩
  case round =>
    obtain ⟨rfl, rfl, rfl⟩ := hrel
    have l1 : ¬ (20 : Int) ≤ (n : Int) := by omega
    go_wp2_with fail
    refine (unhide HC).mono ?_
    rintro e w1 ⟨zs, rfl, hO1, hg1, hs1, ht1⟩
    have HO1 := hide hO1
    have HG1 := hide hg1
    have HS1 := hide hs1
    have HT1 := hide ht1
    clear hO1 hg1 hs1 ht1 HC l1
    obtain ⟨wo, rfl⟩ : ∃ wo : World, wo = wr := ⟨_, rfl⟩
    have l2 : ¬ (20 : Int) < (n : Int) := by omega
    go_wp2_with fail
    go_loopw [6] (fun z wj => z = .int .i64 20 ∧ wj = w1) (fun _ _ => 0)
    case atStart => exact ⟨rfl, rfl⟩
    case round =>
      obtain ⟨rfl, rfl⟩ := hrel
      go_wp2_with fail
      go_end0
      exact ⟨zs, rfl, unhide HO1, unhide HG1, unhide HS1, unhide HT1⟩

theorem sortStableS (X Y : Int) (p1 p2 : Addr) (lo g n c : Nat) (xs : List St) (w : World) (h : OwnS w lo (some ⟨g, 0, none⟩) n c xs) (hn : n < 20)
    (hcmp : ∀ (W : World), w.grownBy W (some g) → ∀ (s t : St), Calls Try.prog 83 #[.agg #[.int .i64 s.id, .string s.nm, .int .i64 s.x, .int .i64 s.y, .int .i64 s.gn, .int .i64 s.lw, .int .i64 s.hg, .int .i64 s.ut], .agg #[.int .i64 t.id, .string t.nm, .int .i64 t.x, .int .i64 t.y, .int .i64 t.gn, .int .i64 t.lw, .int .i64 t.hg, .int .i64 t.ut], .pointer (some p1), .pointer (some p2)] W fun e w' => e = .returned (.int .i64 (cmpI (sqK X Y s) (sqK X Y t))) ∧ Below W.heap.size W w') :
    Calls Try.prog 82 #[.slice (some ⟨g, 0, none⟩) n c, .func (.func 83) #[] #[.pointer (some p1), .pointer (some p2)]] w (RetSrtS X Y w lo g n c xs 0 n) := by
  have HC := hide (stableS X Y p1 p2 lo g n c xs w h hn hcmp)
  clear h hcmp
  go_enter Try.func82, Try.ntmps82
  go_wp2_with fail
  refine (unhide HC).mono ?_
  rintro e w1 ⟨zs, rfl, hO1, hg1, hs1, ht1⟩
  go_wp2_with fail
  go_end0
  exact ⟨zs, rfl, hO1, hg1, hs1, ht1⟩
end Go.Proofs.Ytihkocplgciifaa
