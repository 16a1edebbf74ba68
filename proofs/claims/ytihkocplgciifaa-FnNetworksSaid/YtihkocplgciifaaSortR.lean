/- slices.SortStableFunc at rows: the walks. (By gen_sortR.py.) -/
import Derived.Test.YtihkocplgciifaaProg
import Derived.Test.YtihkocplgciifaaTri
import Derived.BigRegion
namespace Go.Proofs.Ytihkocplgciifaa
open Go.RowKit

/-- the row is the same but for what the sort does between a and b -/
def RetSrtR (w : World) (lo g n c : Nat) (xs : List Tri) (a b : Nat) (e : Ending) (w' : World) : Prop := ∃ ys, e = .returned (.tuple #[]) ∧ OwnK w' lo (some ⟨g, 0, none⟩) n c ys ∧ w.grownBy w' (some g) ∧ SR Tri.d a b xs ys ∧ Srt Tri.d a b ys
theorem grown_abvR {w w' : World} {g : Nat} (h : w.grownBy w' (some g)) (s : Abv w') : w.grownBy s.w (some g) :=
  ⟨s.h.os.trans h.os, s.h.tape.trans h.tape, s.h.output.trans h.output, Nat.le_trans h.size s.h.size, fun k hk hn => (s.h.block k (Nat.lt_of_lt_of_le hk h.size)).trans (h.block k hk hn)⟩
theorem grown_drR {a b : World} {row : Option Nat} (h : a.drew.grownBy b row) : a.grownBy b row := ⟨h.os, h.tape, h.output, h.size, h.block⟩
theorem grown_todrR {a b : World} {row : Option Nat} (h : a.grownBy b row) : a.grownBy b.drew row := ⟨h.os, h.tape, h.output, h.size, h.block⟩
theorem grown_drNR {a b : World} {row : Option Nat} (n : Nat) (h : (a.drewN n).grownBy b row) : a.grownBy b row := ⟨h.os, h.tape, h.output, h.size, h.block⟩

set_option maxHeartbeats 4000000 in
set_option maxRecDepth 100000 in
theorem insSortR (lo g n c : Nat) (xs : List Tri) (a b : Nat) (w : World) (h : OwnK w lo (some ⟨g, 0, none⟩) n c xs) (hab : a ≤ b) (hb : b ≤ n) (hn : n ≤ 4194304) :
    Calls Try.prog 121 #[.slice (some ⟨g, 0, none⟩) n c, .int .i64 a, .int .i64 b, .func (.func 102) #[] #[]] w (RetSrtR w lo g n c xs a b) := by
  have HO := hide h
  clear h
  go_enter Try.func121, Try.ntmps121
  go_wp2
  go_loopw [8] (fun i wr => ∃ (k : Nat) (ys : List Tri), a + 1 ≤ k ∧ (k ≤ b ∨ k = a + 1) ∧ i = .int .i64 k ∧ Hid (OwnK wr lo (some ⟨g, 0, none⟩) n c ys) ∧ Hid (w.grownBy wr (some g)) ∧ Hid (SR Tri.d a b xs ys) ∧ Hid (Srt Tri.d a k ys)) (fun i _ => b - (intOf i).toNat)
  case atStart => exact ⟨a + 1, xs, by omega, by omega, by go_num, HO, World.grownBy.refl _ _, SR.refl _ _ _, Srt.none_ (by omega)⟩
  case round =>
    obtain ⟨k, ys, hk1, hk2, rfl, hO, hG, hS, hT⟩ := hrel
    by_cases hlt : k < b
    · obtain ⟨wo, rfl⟩ : ∃ wo : World, wo = wr := ⟨_, rfl⟩
      go_wp2_with fail
      go_loopw [9] (fun j wj => ∃ (q : Nat) (zs : List Tri), a ≤ q ∧ q ≤ k ∧ j = .int .i64 q ∧ Hid (OwnK wj lo (some ⟨g, 0, none⟩) n c zs) ∧ Hid (w.grownBy wj (some g)) ∧ Hid (SR Tri.d a b xs zs) ∧ Hid (Ins Tri.d a q k zs)) (fun j _ => (intOf j).toNat)
      case atStart => exact ⟨k, ys, by omega, by omega, rfl, hO, hG, hS, Ins.start (unhide hT)⟩
      case round =>
        obtain ⟨q, zs, hq1, hq2, rfl, hO, hG, hS, hI⟩ := hrel
        have hlen := (unhide hO).len
        by_cases hqa : q = a
        · have l1 : decide (a < q) = false := decide_eq_false (by omega)
          have l2 : ¬ a < q := by omega
          have HT2 : Hid (Srt Tri.d a (k + 1) zs) := (unhide hI).end_ hq1 hq2 (fun x y h9 => by omega) (by omega)
          clear hlen hqa hI
          go_wp2_with fail
          go_quiet (fail)
          go_wp2_with fail
          go_roundw
          case rel => exact ⟨k + 1, zs, by omega, by omega, by go_num, (unhide hO).below (below_drewN (Below.refl _ _) _) (Nat.le_refl _), ⟨(unhide hG).os, (unhide hG).tape, (unhide hG).output, (unhide hG).size, (unhide hG).block⟩, hS, HT2⟩
          case measure => simp [intOf]; omega
        · obtain ⟨r, rfl⟩ : ∃ r, q = r + 1 := ⟨q - 1, by omega⟩
          have hqr : a ≤ r := by omega
          obtain ⟨x, hx, c0, f0⟩ := (unhide hO).el (j := r) (by omega)
          obtain ⟨y, hy, d0, e0⟩ := (unhide hO).el (j := r + 1) (by omega)
          have hgz : g < wr.heap.size := ((unhide hO).form (by omega)).elim fun g' h9 => by obtain ⟨h8, _, h7, _⟩ := h9; injection h8 with h8; injection h8 with h8; omega
          have p0 : ∀ s : Abv wr, s.w.cell? ⟨g, r, none⟩ = some (.slice (some ⟨x.b, 0, none⟩) 3 3) := Abv.cell hgz c0
          have p2 : ∀ s : Abv wr, s.w.cell? ⟨g, r + 1, none⟩ = some (.slice (some ⟨y.b, 0, none⟩) 3 3) := Abv.cell hgz d0
          have HC := hide ((unhide hO).cmp (unhide hy) (unhide hx))
          have l1 : decide ((a : Int) < (r : Int) + 1) = true := decide_eq_true (by omega)
          have l3 : (r : Int) < (n : Int) := by omega
          have l4 : (0 : Int) ≤ (r : Int) := by omega
          have l5 : (r : Int) + 1 < (n : Int) := by omega
          have l6 : (0 : Int) ≤ (r : Int) + 1 := by omega
          have HS1 : Hid (IntKind.i64.wrap ((r : Int) + 1 - 1) = (r : Int)) := by unfold Hid; rw [Int.add_sub_cancel]; exact IntWalk.i64_in _ (by omega)
          clear c0 d0 hqa
          rcases hd : decide (y.d < x.d) with _ | _
          · have hX : decide (cmpI y.d x.d < 0) = false := by
              have h9 := of_decide_eq_false hd
              unfold cmpI
              exact decide_eq_false (by split <;> (try split) <;> omega)
            have HT2 : Hid (Srt Tri.d a (k + 1) zs) := (unhide hI).end_ hq1 hq2 (fun x y h9 ex ey => by
              rw [show r + 1 - 1 = r by omega, unhide hx] at ex
              rw [unhide hy] at ey
              cases ex
              cases ey
              have := of_decide_eq_false hd
              show x.d ≤ y.d
              omega) (by omega)
            generalize cmpI y.d x.d = u at HC hX
            clear hd hx hy hI hlen
            have s1 := unhide HS1
            go_wp2_with fail
            refine wp_region_abv wr (by kernel_rfl) (by kernel_rfl) (Below.refl _ _) ?_
            repeat (go_big_quiet_step ((first | (go_at_call 102; exact Calls.abv (unhide HC _)))))
            refine wpQuiet_nil ?_
            intro _ hw'
            obtain ⟨s, hw''⟩ := hw'
            subst hw''
            go_wp2_with fail
            go_roundw
            case rel => exact ⟨k + 1, zs, by omega, by omega, by go_num, (unhide hO).below s.h (Nat.le_refl _), grown_abvR (unhide hG) s, hS, HT2⟩
            case measure => simp [intOf]; omega
          · have hX : decide (cmpI y.d x.d < 0) = true := by
              have h9 := of_decide_eq_true hd
              unfold cmpI
              exact decide_eq_true (by split <;> (try split) <;> omega)
            have hyx : y.d < x.d := of_decide_eq_true hd
            have HS2 := hide ((unhide hS).trans (SR.sink (a := a) (b := b) (by omega) (by omega) (unhide hx) (unhide hy) hyx))
            have HI2 := hide ((unhide hI).swap (by omega) (by omega) (unhide hx) (unhide hy) hyx)
            have HSW := hide (fun (W : World) (hO : OwnK W lo (some ⟨g, 0, none⟩) n c zs) => hO.swap (unhide hy) (unhide hx))
            generalize cmpI y.d x.d = u at HC hX
            clear hd hx hy hI hlen hS hyx
            have s1 := unhide HS1
            go_wp2_with fail
            refine wp_region_abv wr (by kernel_rfl) (by kernel_rfl) (Below.refl _ _) ?_
            repeat (go_big_quiet_step ((first | (go_at_call 102; exact Calls.abv (unhide HC _)))))
            refine wpQuiet_nil ?_
            intro _ hw'
            obtain ⟨s, hw''⟩ := hw'
            subst hw''
            have c0 := p0 s
            have d0 := p2 s
            have k0 := (s.h.frozen (p := ⟨g, r, none⟩) hgz).trans f0
            have k2 := (s.h.frozen (p := ⟨g, r + 1, none⟩) hgz).trans e0
            have HOs := hide ((unhide hO).below s.h (Nat.le_refl _))
            have HGs := hide (grown_abvR (unhide hG) s)
            generalize s.w = ws at c0 d0 k0 k2 HOs HGs ⊢
            clear p0 p2 f0 e0 hgz hO hG HC hX
            go_wp2_with fail
            go_region
            all_goals
              clear s1
              go_wp2_with fail
              go_roundw
              case rel => exact ⟨r, swp zs (r + 1) r, by omega, by omega, rfl, (unhide HSW _ (unhide HOs)).1.dr, grown_todrR (grownBy_trans (unhide HGs) (unhide HSW _ (unhide HOs)).2), HS2, HI2⟩
              case measure => simp [intOf] <;> omega
    · go_wp2
      go_end0
      exact ⟨ys, rfl, unhide hO, unhide hG, unhide hS, (unhide hT).less (Nat.le_refl _) (by omega)⟩
def RetXRR (w : World) (lo g n c : Nat) (xs : List Tri) (a b m : Nat) (e : Ending) (w' : World) : Prop := ∃ ys, e = .returned (.tuple #[]) ∧ OwnK w' lo (some ⟨g, 0, none⟩) n c ys ∧ w.grownBy w' (some g) ∧ XR a b m xs ys
set_option maxHeartbeats 4000000 in
set_option maxRecDepth 100000 in
theorem swapRangeR (lo g n c : Nat) (xs : List Tri) (a b m : Nat) (ai bi mi : Int) (w : World) (h : OwnK w lo (some ⟨g, 0, none⟩) n c xs) (ha : ai = (a : Int)) (hb : bi = (b : Int)) (hm : mi = (m : Int)) (hab : a + m ≤ b) (hbn : b + m ≤ n) (hn : n ≤ 4194304) :
    Calls Try.prog 126 #[.slice (some ⟨g, 0, none⟩) n c, .int .i64 ai, .int .i64 bi, .int .i64 mi, .func (.func 102) #[] #[]] w (RetXRR w lo g n c xs a b m) := by
  subst ha hb hm
  have HO := hide h
  clear h
  go_enter Try.func126, Try.ntmps126
  go_wp2
  go_loopw [10] (fun i wr => ∃ (k : Nat) (ys : List Tri), k ≤ m ∧ i = .int .i64 k ∧ Hid (OwnK wr lo (some ⟨g, 0, none⟩) n c ys) ∧ Hid (w.grownBy wr (some g)) ∧ Hid (XR a b k xs ys)) (fun i _ => m - (intOf i).toNat)
  case atStart => exact ⟨0, xs, by omega, rfl, HO, World.grownBy.refl _ _, XR.zero _ _ _⟩
  case round =>
    obtain ⟨k, ys, hk, rfl, hO, hG, hX⟩ := hrel
    by_cases hlt : k < m
    · obtain ⟨x, hx, c0, f0⟩ := (unhide hO).el (j := a + k) (by omega)
      obtain ⟨y, hy, d0, e0⟩ := (unhide hO).el (j := b + k) (by omega)
      have HX2 := hide ((unhide hX).step (by omega) (unhide hx) (unhide hy))
      have HSW := hide (fun (W : World) (hO : OwnK W lo (some ⟨g, 0, none⟩) n c ys) => hO.swap (unhide hx) (unhide hy))
      have l1 : (a : Int) + (k : Int) < (n : Int) := by omega
      have l2 : (0 : Int) ≤ (a : Int) + (k : Int) := by omega
      have l3 : (b : Int) + (k : Int) < (n : Int) := by omega
      have l4 : (0 : Int) ≤ (b : Int) + (k : Int) := by omega
      have l5 : ((a : Int) + (k : Int)).toNat = a + k := by omega
      have l6 : ((b : Int) + (k : Int)).toNat = b + k := by omega
      have s1 : IntKind.i64.wrap ((a : Int) + (k : Int)) = (a : Int) + (k : Int) := IntWalk.i64_in _ (by omega)
      have s2 : IntKind.i64.wrap ((b : Int) + (k : Int)) = (b : Int) + (k : Int) := IntWalk.i64_in _ (by omega)
      clear hx hy hX
      go_wp2_with fail
      go_region
      all_goals
        clear s1 s2 l5 l6
        go_wp2_with fail
        go_roundw
        case rel => exact ⟨k + 1, swp ys (a + k) (b + k), by omega, by go_num, (unhide HSW _ (unhide hO)).1.dr, grown_todrR (grownBy_trans (unhide hG) (unhide HSW _ (unhide hO)).2), HX2⟩
        case measure => simp [intOf] <;> omega
    · obtain rfl : k = m := by omega
      go_wp2
      go_end0
      exact ⟨ys, rfl, unhide hO, unhide hG, unhide hX⟩

def RetRotR (w : World) (lo g n c : Nat) (xs : List Tri) (a m b : Nat) (e : Ending) (w' : World) : Prop := e = .returned (.tuple #[]) ∧ OwnK w' lo (some ⟨g, 0, none⟩) n c (rot a m b xs) ∧ w.grownBy w' (some g)
set_option maxHeartbeats 4000000 in
set_option maxRecDepth 100000 in
theorem rotateR (lo g n c : Nat) (xs : List Tri) (a m b : Nat) (w : World) (h : OwnK w lo (some ⟨g, 0, none⟩) n c xs) (ham : a < m) (hmb : m < b) (hbn : b ≤ n) (hn : n ≤ 4194304) :
    Calls Try.prog 124 #[.slice (some ⟨g, 0, none⟩) n c, .int .i64 a, .int .i64 m, .int .i64 b, .func (.func 102) #[] #[]] w (RetRotR w lo g n c xs a m b) := by
  have HO := hide h
  have HLX := hide h.len
  clear h
  go_enter Try.func124, Try.ntmps124
  go_wp2
  go_loopw [10, 11] (fun i j wr => ∃ (s p q : Nat) (ys : List Tri), 0 < p ∧ 0 < q ∧ s + p = m ∧ s + p + q ≤ b ∧ i = .int .i64 p ∧ j = .int .i64 q ∧ Hid (OwnK wr lo (some ⟨g, 0, none⟩) n c ys) ∧ Hid (w.grownBy wr (some g)) ∧ Hid (rot s (s + p) (s + p + q) ys = rot a m b xs)) (fun i j _ => (intOf i).toNat + (intOf j).toNat)
  case atStart => exact ⟨a, m - a, b - m, xs, by omega, by omega, by omega, by omega, by go_num, by go_num, HO, World.grownBy.refl _ _, by unfold Hid; rw [show a + (m - a) = m by omega, show m + (b - m) = b by omega]⟩
  case round =>
    obtain ⟨s, p, q, ys, hp, hq, hsp, hspq, rfl, rfl, hO, hG, hR⟩ := hrel
    have hlen := (unhide hO).len
    have t0 : (m : Int) - (p : Int) = (s : Int) := by omega
    rcases Nat.lt_trichotomy p q with hpq | hpq | hpq
    · have t1 : ((p : Int) != (q : Int)) = true := by simp; omega
      have t2 : ¬ q < p := by omega
      have HC := hide (fun W hO => swapRangeR lo g n c ys s (s + q) p ((m : Int) - (p : Int)) ((m : Int) + (q : Int) - (p : Int)) (p : Int) W hO t0 (by omega) rfl (by omega) (by omega) hn)
      have HN := hide (fun zs (h : XR s (s + q) p ys zs) => h.rot_right hpq (by omega))
      clear t0 hlen
      go_wp2_with fail
      refine (unhide HC _ (unhide hO)).mono ?_
      rintro e w1 ⟨zs, rfl, hO1, hg1, hx1⟩
      have HO1 := hide hO1
      have HG1 := hide (grownBy_trans (unhide hG) hg1)
      have HR1 : Hid (rot s (s + p) (s + p + (q - p)) zs = rot a m b xs) := by
        unfold Hid
        rw [show s + p + (q - p) = s + q by omega, unhide HN zs hx1]
        exact unhide hR
      clear hO1 hg1 hx1 HN
      go_wp2_with fail
      go_roundw
      case rel => exact ⟨s, p, q - p, zs, by omega, by omega, by omega, by omega, rfl, by go_num, HO1, HG1, HR1⟩
      case measure => simp [intOf] <;> omega
    · subst hpq
      have HC := hide (fun W hO => swapRangeR lo g n c ys s (s + p) p ((m : Int) - (p : Int)) (m : Int) (p : Int) W hO t0 (by omega) rfl (by omega) (by omega) hn)
      have HN := hide (fun zs (h : XR s (s + p) p ys zs) => h.rot_eq (by omega))
      clear t0 hlen
      go_wp2_with fail
      refine (unhide HC _ (unhide hO)).mono ?_
      rintro e w1 ⟨zs, rfl, hO1, hg1, hx1⟩
      have HG1 := hide (grownBy_trans (unhide hG) hg1)
      have HO1 : Hid (OwnK w1 lo (some ⟨g, 0, none⟩) n c (rot a m b xs)) := by
        unfold Hid
        rw [← unhide hR, ← unhide HN zs hx1]
        exact hO1
      clear hO1 hg1 hx1 HN
      go_wp2_with fail
      go_end0
      exact ⟨rfl, unhide HO1, unhide HG1⟩
    · have t1 : ((p : Int) != (q : Int)) = true := by simp; omega
      have t2 : q < p := by omega
      have HC := hide (fun W hO => swapRangeR lo g n c ys s (s + p) q ((m : Int) - (p : Int)) (m : Int) (q : Int) W hO t0 (by omega) rfl (by omega) (by omega) hn)
      have HN := hide (fun zs (h : XR s (s + p) q ys zs) => h.rot_left hpq (by omega))
      clear t0 hlen
      go_wp2_with fail
      refine (unhide HC _ (unhide hO)).mono ?_
      rintro e w1 ⟨zs, rfl, hO1, hg1, hx1⟩
      have HO1 := hide hO1
      have HG1 := hide (grownBy_trans (unhide hG) hg1)
      have HR1 : Hid (rot (s + q) (s + q + (p - q)) (s + q + (p - q) + q) zs = rot a m b xs) := by
        unfold Hid
        rw [show s + q + (p - q) = s + p by omega, unhide HN zs hx1]
        exact unhide hR
      clear hO1 hg1 hx1 HN
      go_wp2_with fail
      go_roundw
      case rel => exact ⟨s + q, p - q, q, zs, by omega, by omega, by omega, by omega, by go_num, rfl, HO1, HG1, HR1⟩
      case measure => simp [intOf] <;> omega

end Go.Proofs.Ytihkocplgciifaa
