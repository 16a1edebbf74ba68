/- slices.SortStableFunc at one element type: the walks. (By gen_sort.py.) -/
import Derived.Test.YtmpgafanlgnpeaaProg
import Derived.Test.YtmpgafanlgnpeaaSortPlain
import Derived.Test.YtmpgafanlgnpeaaClkD
import Derived.Test.YtmpgafanlgnpeaaClkE
import Derived.BigRegion
namespace Go.Proofs.Ytmpgafanlgnpeaa
open Go.RowKit

theorem OwnP.el {w : World} {lo g n c j : Nat} {E : TypeId} {xs : List (Int × Int)} (h : OwnP w lo E (some ⟨g, 0, none⟩) n c xs) (hj : j < n) :
    ∃ x0 x1, Hid (xs[j]? = some (x0, x1)) ∧ w.cell? ⟨g, j * 2, none⟩ = some (.int .i64 x0) ∧ w.cell? ⟨g, j * 2 + 1, none⟩ = some (.int .i64 x1) ∧ w.frozen? ⟨g, j * 2, none⟩ = false ∧ w.frozen? ⟨g, j * 2 + 1, none⟩ = false := by
  have hl := h.len
  have hl' : j < xs.length := by omega
  refine ⟨xs[j].1, xs[j].2, List.getElem?_eq_getElem hl', ?_, ?_, World.ownsRow.frozenAt h _, World.ownsRow.frozenAt h _⟩
  · rw [World.ownsRow.cellAt h (j * 2) (by omega), cP_get0, List.getElem?_eq_getElem hl']; rfl
  · rw [World.ownsRow.cellAt h (j * 2 + 1) (by omega), cP_get1, List.getElem?_eq_getElem hl']; rfl
theorem OwnP.swap {w : World} {lo g n c i j : Nat} {E : TypeId} {xs : List (Int × Int)} {x0 x1 y0 y1 : Int} (h : OwnP w lo E (some ⟨g, 0, none⟩) n c xs) (hx : xs[i]? = some (x0, x1)) (hy : xs[j]? = some (y0, y1)) :
    OwnP ((((w.setCell ⟨g, i * 2, none⟩ (.int .i64 y0)).setCell ⟨g, i * 2 + 1, none⟩ (.int .i64 y1)).setCell ⟨g, j * 2, none⟩ (.int .i64 x0)).setCell ⟨g, j * 2 + 1, none⟩ (.int .i64 x1)) lo E (some ⟨g, 0, none⟩) n c (swp xs i j) ∧
      w.grownBy ((((w.setCell ⟨g, i * 2, none⟩ (.int .i64 y0)).setCell ⟨g, i * 2 + 1, none⟩ (.int .i64 y1)).setCell ⟨g, j * 2, none⟩ (.int .i64 x0)).setCell ⟨g, j * 2 + 1, none⟩ (.int .i64 x1)) (some g) := by
  obtain ⟨a1, a2⟩ := World.ownsRow.stored h (i * 2) (.int .i64 y0)
  obtain ⟨b1, b2⟩ := World.ownsRow.stored a1 (i * 2 + 1) (.int .i64 y1)
  obtain ⟨c1, c2⟩ := World.ownsRow.stored b1 (j * 2) (.int .i64 x0)
  obtain ⟨d1, d2⟩ := World.ownsRow.stored c1 (j * 2 + 1) (.int .i64 x1)
  refine ⟨?_, grownBy_trans (grownBy_trans (grownBy_trans a2 b2) c2) d2⟩
  rw [swp_of hx hy]
  unfold OwnP
  rw [← cP_set, ← cP_set]
  exact d1
theorem cmp_ord (x0 x1 y0 y1 : Int) (w : World) : Calls Try.prog 93 #[.agg #[.int .i64 x0, .int .i64 x1], .agg #[.int .i64 y0, .int .i64 y1]] w fun e w' => e = .returned (.int .i64 (cmpI x0 y0)) ∧ Below w.heap.size w w' := by
  have HC := hide (fun W => Compare_any x0 y0 W)
  generalize cmpI x0 y0 = r at *
  go_enter Try.func93, Try.ntmps93
  go_wp2_with fail
  refine (unhide HC _).mono ?_
  rintro e w1 ⟨rfl, rfl⟩
  go_wp2_with fail
  go_ret
  exact ⟨rfl, (by repeat (first | exact Below.refl _ _ | refine Below.alloc ?_ (by simp <;> omega) _))⟩

/-- the row is the same but for what the sort does between a and b -/
def RetSrtM (w : World) (lo g n c : Nat) (xs : List (Int × Int)) (a b : Nat) (e : Ending) (w' : World) : Prop := ∃ ys, e = .returned (.tuple #[]) ∧ OwnP w' lo 43 (some ⟨g, 0, none⟩) n c ys ∧ w.grownBy w' (some g) ∧ SR Prod.fst a b xs ys ∧ Srt Prod.fst a b ys
theorem grown_abvM {w w' : World} {g : Nat} (h : w.grownBy w' (some g)) (s : Abv w') : w.grownBy s.w (some g) :=
  ⟨s.h.os.trans h.os, s.h.tape.trans h.tape, s.h.output.trans h.output, Nat.le_trans h.size s.h.size, fun k hk hn => (s.h.block k (Nat.lt_of_lt_of_le hk h.size)).trans (h.block k hk hn)⟩
theorem grown_drM {a b : World} {row : Option Nat} (h : a.drew.grownBy b row) : a.grownBy b row := ⟨h.os, h.tape, h.output, h.size, h.block⟩
theorem grown_todrM {a b : World} {row : Option Nat} (h : a.grownBy b row) : a.grownBy b.drew row := ⟨h.os, h.tape, h.output, h.size, h.block⟩
theorem grown_drNM {a b : World} {row : Option Nat} (n : Nat) (h : (a.drewN n).grownBy b row) : a.grownBy b row := ⟨h.os, h.tape, h.output, h.size, h.block⟩

set_option maxHeartbeats 4000000 in
set_option maxRecDepth 100000 in
theorem insSortM (lo g n c : Nat) (xs : List (Int × Int)) (a b : Nat) (w : World) (h : OwnP w lo 43 (some ⟨g, 0, none⟩) n c xs) (hab : a ≤ b) (hb : b ≤ n) (hn : n ≤ 4194304) :
    Calls Try.prog 99 #[.slice (some ⟨g, 0, none⟩) n c, .int .i64 a, .int .i64 b, .func (.func 93) #[] #[]] w (RetSrtM w lo g n c xs a b) := by
  have HO := hide h
  clear h
  go_enter Try.func99, Try.ntmps99
  go_wp2
  go_loopw [8] (fun i wr => ∃ (k : Nat) (ys : List (Int × Int)), a + 1 ≤ k ∧ (k ≤ b ∨ k = a + 1) ∧ i = .int .i64 k ∧ Hid (OwnP wr lo 43 (some ⟨g, 0, none⟩) n c ys) ∧ Hid (w.grownBy wr (some g)) ∧ Hid (SR Prod.fst a b xs ys) ∧ Hid (Srt Prod.fst a k ys)) (fun i _ => b - (intOf i).toNat)
  case atStart => exact ⟨a + 1, xs, by omega, by omega, by go_num, HO, World.grownBy.refl _ _, SR.refl _ _ _, Srt.none_ (by omega)⟩
  case round =>
    obtain ⟨k, ys, hk1, hk2, rfl, hO, hG, hS, hT⟩ := hrel
    by_cases hlt : k < b
    · obtain ⟨wo, rfl⟩ : ∃ wo : World, wo = wr := ⟨_, rfl⟩
      go_wp2_with fail
      go_loopw [9] (fun j wj => ∃ (q : Nat) (zs : List (Int × Int)), a ≤ q ∧ q ≤ k ∧ j = .int .i64 q ∧ Hid (OwnP wj lo 43 (some ⟨g, 0, none⟩) n c zs) ∧ Hid (w.grownBy wj (some g)) ∧ Hid (SR Prod.fst a b xs zs) ∧ Hid (Ins Prod.fst a q k zs)) (fun j _ => (intOf j).toNat)
      case atStart => exact ⟨k, ys, by omega, by omega, rfl, hO, hG, hS, Ins.start (unhide hT)⟩
      case round =>
        obtain ⟨q, zs, hq1, hq2, rfl, hO, hG, hS, hI⟩ := hrel
        have hlen := (unhide hO).len
        by_cases hqa : q = a
        · have l1 : decide (a < q) = false := decide_eq_false (by omega)
          have l2 : ¬ a < q := by omega
          have HT2 : Hid (Srt Prod.fst a (k + 1) zs) := (unhide hI).end_ hq1 hq2 (fun x y h9 => by omega) (by omega)
          clear hlen hqa hI
          go_wp2_with fail
          go_quiet (fail)
          go_wp2_with fail
          go_roundw
          case rel => exact ⟨k + 1, zs, by omega, by omega, by go_num, (unhide hO).below (below_drewN (Below.refl _ _) _) (Nat.le_refl _), ⟨(unhide hG).os, (unhide hG).tape, (unhide hG).output, (unhide hG).size, (unhide hG).block⟩, hS, HT2⟩
          case measure => simp [intOf]; omega
        · obtain ⟨r, rfl⟩ : ∃ r, q = r + 1 := ⟨q - 1, by omega⟩
          have hqr : a ≤ r := by omega
          obtain ⟨x0, x1, hx, c0, c1, f0, f1⟩ := (unhide hO).el (j := r) (by omega)
          obtain ⟨y0, y1, hy, d0, d1, e0, e1⟩ := (unhide hO).el (j := r + 1) (by omega)
          have hgz : g < wr.heap.size := ((unhide hO).form (by omega)).elim fun g' h9 => by obtain ⟨h8, _, h7, _⟩ := h9; injection h8 with h8; injection h8 with h8; omega
          have p0 : ∀ s : Abv wr, s.w.cell? ⟨g, r * 2, none⟩ = some (.int .i64 x0) := Abv.cell hgz c0
          have p1 : ∀ s : Abv wr, s.w.cell? ⟨g, r * 2 + 1, none⟩ = some (.int .i64 x1) := Abv.cell hgz c1
          have p2 : ∀ s : Abv wr, s.w.cell? ⟨g, (r + 1) * 2, none⟩ = some (.int .i64 y0) := Abv.cell hgz d0
          have p3 : ∀ s : Abv wr, s.w.cell? ⟨g, (r + 1) * 2 + 1, none⟩ = some (.int .i64 y1) := Abv.cell hgz d1
          have HC := hide (fun W => cmp_ord y0 y1 x0 x1 W)
          have l1 : decide ((a : Int) < (r : Int) + 1) = true := decide_eq_true (by omega)
          have l3 : (r : Int) < (n : Int) := by omega
          have l4 : (0 : Int) ≤ (r : Int) := by omega
          have l5 : (r : Int) + 1 < (n : Int) := by omega
          have l6 : (0 : Int) ≤ (r : Int) + 1 := by omega
          have HS1 : Hid (IntKind.i64.wrap ((r : Int) + 1 - 1) = (r : Int)) := by unfold Hid; rw [Int.add_sub_cancel]; exact IntWalk.i64_in _ (by omega)
          clear c0 c1 d0 d1 hqa
          rcases hd : decide (y0 < x0) with _ | _
          · have hX : decide (cmpI y0 x0 < 0) = false := by
              have h9 := of_decide_eq_false hd
              unfold cmpI
              exact decide_eq_false (by split <;> (try split) <;> omega)
            have HT2 : Hid (Srt Prod.fst a (k + 1) zs) := (unhide hI).end_ hq1 hq2 (fun x y h9 ex ey => by
              rw [show r + 1 - 1 = r by omega, unhide hx] at ex
              rw [unhide hy] at ey
              cases ex
              cases ey
              have := of_decide_eq_false hd
              show x0 ≤ y0
              omega) (by omega)
            generalize cmpI y0 x0 = u at HC hX
            clear hd hx hy hI hlen
            have s1 := unhide HS1
            go_wp2_with fail
            refine wp_region_abv wr (by kernel_rfl) (by kernel_rfl) (Below.refl _ _) ?_
            repeat (go_big_quiet_step ((first | (go_at_call 93; exact Calls.abv (unhide HC _)))))
            refine wpQuiet_nil ?_
            intro _ hw'
            obtain ⟨s, hw''⟩ := hw'
            subst hw''
            go_wp2_with fail
            go_roundw
            case rel => exact ⟨k + 1, zs, by omega, by omega, by go_num, (unhide hO).below s.h (Nat.le_refl _), grown_abvM (unhide hG) s, hS, HT2⟩
            case measure => simp [intOf]; omega
          · have hX : decide (cmpI y0 x0 < 0) = true := by
              have h9 := of_decide_eq_true hd
              unfold cmpI
              exact decide_eq_true (by split <;> (try split) <;> omega)
            have hyx : y0 < x0 := of_decide_eq_true hd
            have HS2 := hide ((unhide hS).trans (SR.sink (a := a) (b := b) (by omega) (by omega) (unhide hx) (unhide hy) hyx))
            have HI2 := hide ((unhide hI).swap (by omega) (by omega) (unhide hx) (unhide hy) hyx)
            have HSW := hide (fun (W : World) (hO : OwnP W lo 43 (some ⟨g, 0, none⟩) n c zs) => hO.swap (unhide hy) (unhide hx))
            generalize cmpI y0 x0 = u at HC hX
            clear hd hx hy hI hlen hS hyx
            have s1 := unhide HS1
            go_wp2_with fail
            refine wp_region_abv wr (by kernel_rfl) (by kernel_rfl) (Below.refl _ _) ?_
            repeat (go_big_quiet_step ((first | (go_at_call 93; exact Calls.abv (unhide HC _)))))
            refine wpQuiet_nil ?_
            intro _ hw'
            obtain ⟨s, hw''⟩ := hw'
            subst hw''
            have c0 := p0 s
            have c1 := p1 s
            have d0 := p2 s
            have d1 := p3 s
            have k0 := (s.h.frozen (p := ⟨g, r * 2, none⟩) hgz).trans f0
            have k1 := (s.h.frozen (p := ⟨g, r * 2 + 1, none⟩) hgz).trans f1
            have k2 := (s.h.frozen (p := ⟨g, (r + 1) * 2, none⟩) hgz).trans e0
            have k3 := (s.h.frozen (p := ⟨g, (r + 1) * 2 + 1, none⟩) hgz).trans e1
            have HOs := hide ((unhide hO).below s.h (Nat.le_refl _))
            have HGs := hide (grown_abvM (unhide hG) s)
            generalize s.w = ws at c0 c1 d0 d1 k0 k1 k2 k3 HOs HGs ⊢
            clear p0 p1 p2 p3 f0 f1 e0 e1 hgz hO hG HC hX
            go_wp2_with fail
            go_region
            all_goals
              clear s1
              go_wp2_with fail
              go_roundw
              case rel => exact ⟨r, swp zs (r + 1) r, by omega, by omega, rfl, (unhide HSW _ (unhide HOs)).1, grown_todrM (grownBy_trans (unhide HGs) (unhide HSW _ (unhide HOs)).2), HS2, HI2⟩
              case measure => simp [intOf] <;> omega
    · go_wp2
      go_end0
      exact ⟨ys, rfl, unhide hO, unhide hG, unhide hS, (unhide hT).less (Nat.le_refl _) (by omega)⟩
def RetXRM (w : World) (lo g n c : Nat) (xs : List (Int × Int)) (a b m : Nat) (e : Ending) (w' : World) : Prop := ∃ ys, e = .returned (.tuple #[]) ∧ OwnP w' lo 43 (some ⟨g, 0, none⟩) n c ys ∧ w.grownBy w' (some g) ∧ XR a b m xs ys
set_option maxHeartbeats 4000000 in
set_option maxRecDepth 100000 in
theorem swapRangeM (lo g n c : Nat) (xs : List (Int × Int)) (a b m : Nat) (ai bi mi : Int) (w : World) (h : OwnP w lo 43 (some ⟨g, 0, none⟩) n c xs) (ha : ai = (a : Int)) (hb : bi = (b : Int)) (hm : mi = (m : Int)) (hab : a + m ≤ b) (hbn : b + m ≤ n) (hn : n ≤ 4194304) :
    Calls Try.prog 102 #[.slice (some ⟨g, 0, none⟩) n c, .int .i64 ai, .int .i64 bi, .int .i64 mi, .func (.func 93) #[] #[]] w (RetXRM w lo g n c xs a b m) := by
  subst ha hb hm
  have HO := hide h
  clear h
  go_enter Try.func102, Try.ntmps102
  go_wp2
  go_loopw [10] (fun i wr => ∃ (k : Nat) (ys : List (Int × Int)), k ≤ m ∧ i = .int .i64 k ∧ Hid (OwnP wr lo 43 (some ⟨g, 0, none⟩) n c ys) ∧ Hid (w.grownBy wr (some g)) ∧ Hid (XR a b k xs ys)) (fun i _ => m - (intOf i).toNat)
  case atStart => exact ⟨0, xs, by omega, rfl, HO, World.grownBy.refl _ _, XR.zero _ _ _⟩
  case round =>
    obtain ⟨k, ys, hk, rfl, hO, hG, hX⟩ := hrel
    by_cases hlt : k < m
    · obtain ⟨x0, x1, hx, c0, c1, f0, f1⟩ := (unhide hO).el (j := a + k) (by omega)
      obtain ⟨y0, y1, hy, d0, d1, e0, e1⟩ := (unhide hO).el (j := b + k) (by omega)
      have HX2 := hide ((unhide hX).step (by omega) (unhide hx) (unhide hy))
      have HSW := hide (fun (W : World) (hO : OwnP W lo 43 (some ⟨g, 0, none⟩) n c ys) => hO.swap (unhide hx) (unhide hy))
      have l1 : (a : Int) + (k : Int) < (n : Int) := by omega
      have l2 : (0 : Int) ≤ (a : Int) + (k : Int) := by omega
      have l3 : (b : Int) + (k : Int) < (n : Int) := by omega
      have l4 : (0 : Int) ≤ (b : Int) + (k : Int) := by omega
      have l5 : ((a : Int) + (k : Int)).toNat = a + k := by omega
      have l6 : ((b : Int) + (k : Int)).toNat = b + k := by omega
      have s1 : IntKind.i64.wrap ((a : Int) + (k : Int)) = (a : Int) + (k : Int) := IntWalk.i64_in _ (by omega)
      have s2 : IntKind.i64.wrap ((b : Int) + (k : Int)) = (b : Int) + (k : Int) := IntWalk.i64_in _ (by omega)
      clear hx hy hX
      go_wp2_with fail
      go_region
      all_goals
        clear s1 s2 l5 l6
        go_wp2_with fail
        go_roundw
        case rel => exact ⟨k + 1, swp ys (a + k) (b + k), by omega, by go_num, (unhide HSW _ (unhide hO)).1, grown_todrM (grownBy_trans (unhide hG) (unhide HSW _ (unhide hO)).2), HX2⟩
        case measure => simp [intOf] <;> omega
    · obtain rfl : k = m := by omega
      go_wp2
      go_end0
      exact ⟨ys, rfl, unhide hO, unhide hG, unhide hX⟩

def RetRotM (w : World) (lo g n c : Nat) (xs : List (Int × Int)) (a m b : Nat) (e : Ending) (w' : World) : Prop := e = .returned (.tuple #[]) ∧ OwnP w' lo 43 (some ⟨g, 0, none⟩) n c (rot a m b xs) ∧ w.grownBy w' (some g)
set_option maxHeartbeats 4000000 in
set_option maxRecDepth 100000 in
theorem rotateM (lo g n c : Nat) (xs : List (Int × Int)) (a m b : Nat) (w : World) (h : OwnP w lo 43 (some ⟨g, 0, none⟩) n c xs) (ham : a < m) (hmb : m < b) (hbn : b ≤ n) (hn : n ≤ 4194304) :
    Calls Try.prog 101 #[.slice (some ⟨g, 0, none⟩) n c, .int .i64 a, .int .i64 m, .int .i64 b, .func (.func 93) #[] #[]] w (RetRotM w lo g n c xs a m b) := by
  have HO := hide h
  have HLX := hide h.len
  clear h
  go_enter Try.func101, Try.ntmps101
  go_wp2
  go_loopw [10, 11] (fun i j wr => ∃ (s p q : Nat) (ys : List (Int × Int)), 0 < p ∧ 0 < q ∧ s + p = m ∧ s + p + q ≤ b ∧ i = .int .i64 p ∧ j = .int .i64 q ∧ Hid (OwnP wr lo 43 (some ⟨g, 0, none⟩) n c ys) ∧ Hid (w.grownBy wr (some g)) ∧ Hid (rot s (s + p) (s + p + q) ys = rot a m b xs)) (fun i j _ => (intOf i).toNat + (intOf j).toNat)
  case atStart => exact ⟨a, m - a, b - m, xs, by omega, by omega, by omega, by omega, by go_num, by go_num, HO, World.grownBy.refl _ _, by unfold Hid; rw [show a + (m - a) = m by omega, show m + (b - m) = b by omega]⟩
  case round =>
    obtain ⟨s, p, q, ys, hp, hq, hsp, hspq, rfl, rfl, hO, hG, hR⟩ := hrel
    have hlen := (unhide hO).len
    have t0 : (m : Int) - (p : Int) = (s : Int) := by omega
    rcases Nat.lt_trichotomy p q with hpq | hpq | hpq
    · have t1 : ((p : Int) != (q : Int)) = true := by simp; omega
      have t2 : ¬ q < p := by omega
      have HC := hide (fun W hO => swapRangeM lo g n c ys s (s + q) p ((m : Int) - (p : Int)) ((m : Int) + (q : Int) - (p : Int)) (p : Int) W hO t0 (by omega) rfl (by omega) (by omega) hn)
      have HN := hide (fun zs (h : XR s (s + q) p ys zs) => h.rot_right hpq (by omega))
      clear t0 hlen
      go_wp2_with fail
      refine (unhide HC _ (unhide hO)).mono ?_
      rintro e w1 ⟨zs, rfl, hO1, hg1, hx1⟩
      have HO1 := hide hO1
      have HG1 := hide (grownBy_trans (unhide hG) hg1)
      have HR1 : Hid (rot s (s + p) (s + p + (q - p)) zs = rot a m b xs) := by
        unfold Hid
        rw [show s + p + (q - p) = s + q by omega, unhide HN zs hx1]
        exact unhide hR
      clear hO1 hg1 hx1 HN
      go_wp2_with fail
      go_roundw
      case rel => exact ⟨s, p, q - p, zs, by omega, by omega, by omega, by omega, rfl, by go_num, HO1, HG1, HR1⟩
      case measure => simp [intOf] <;> omega
    · subst hpq
      have HC := hide (fun W hO => swapRangeM lo g n c ys s (s + p) p ((m : Int) - (p : Int)) (m : Int) (p : Int) W hO t0 (by omega) rfl (by omega) (by omega) hn)
      have HN := hide (fun zs (h : XR s (s + p) p ys zs) => h.rot_eq (by omega))
      clear t0 hlen
      go_wp2_with fail
      refine (unhide HC _ (unhide hO)).mono ?_
      rintro e w1 ⟨zs, rfl, hO1, hg1, hx1⟩
      have HG1 := hide (grownBy_trans (unhide hG) hg1)
      have HO1 : Hid (OwnP w1 lo 43 (some ⟨g, 0, none⟩) n c (rot a m b xs)) := by
        unfold Hid
        rw [← unhide hR, ← unhide HN zs hx1]
        exact hO1
      clear hO1 hg1 hx1 HN
      go_wp2_with fail
      go_end0
      exact ⟨rfl, unhide HO1, unhide HG1⟩
    · have t1 : ((p : Int) != (q : Int)) = true := by simp; omega
      have t2 : q < p := by omega
      have HC := hide (fun W hO => swapRangeM lo g n c ys s (s + p) q ((m : Int) - (p : Int)) (m : Int) (q : Int) W hO t0 (by omega) rfl (by omega) (by omega) hn)
      have HN := hide (fun zs (h : XR s (s + p) q ys zs) => h.rot_left hpq (by omega))
      clear t0 hlen
      go_wp2_with fail
      refine (unhide HC _ (unhide hO)).mono ?_
      rintro e w1 ⟨zs, rfl, hO1, hg1, hx1⟩
      have HO1 := hide hO1
      have HG1 := hide (grownBy_trans (unhide hG) hg1)
      have HR1 : Hid (rot (s + q) (s + q + (p - q)) (s + q + (p - q) + q) zs = rot a m b xs) := by
        unfold Hid
        rw [show s + q + (p - q) = s + p by omega, unhide HN zs hx1]
        exact unhide hR
      clear hO1 hg1 hx1 HN
      go_wp2_with fail
      go_roundw
      case rel => exact ⟨s + q, p - q, q, zs, by omega, by omega, by omega, by omega, by go_num, rfl, HO1, HG1, HR1⟩
      case measure => simp [intOf] <;> omega

end Go.Proofs.Ytmpgafanlgnpeaa
