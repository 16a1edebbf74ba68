/- slices.SortStableFunc at one element type: the walk. (By gen_sortR.py.) -/
import Derived.Test.YtihkocplgciifaaProg
import Derived.Test.YtihkocplgciifaaSymR
namespace Go.Proofs.Ytihkocplgciifaa
open Go.RowKit

/-- every stretch of z from a on is in order, up to n -/
def Blk {α : Type} (key : α → Int) (n z a : Nat) (xs : List α) : Prop := ∀ u, Srt key (a + z * u) (min (a + z * u + z) n) xs
/-- every whole stretch of z up to a is in order -/
def Upto {α : Type} (key : α → Int) (z t : Nat) (xs : List α) : Prop := ∀ u, u < t → Srt key (z * u) (z * u + z) xs
theorem Upto.sr {α : Type} {key : α → Int} {z t b : Nat} {xs ys : List α} (h : Upto key z t xs) (hs : SR key (z * t) b xs ys) : Upto key z t ys := fun u hu =>
  (h u hu).keep fun i q1 q2 => hs.out i (.inl (by
    have := Nat.mul_le_mul_left z (show u + 1 ≤ t by omega)
    rw [Nat.mul_succ] at this
    omega))
theorem Upto.next {α : Type} {key : α → Int} {z t : Nat} {xs : List α} (h : Upto key z t xs) (hs : Srt key (z * t) (z * t + z) xs) : Upto key z (t + 1) xs := fun u hu => by
  rcases Nat.lt_or_ge u t with h9 | h9
  · exact h u h9
  · obtain rfl : u = t := by omega
    exact hs
theorem Upto.blk {α : Type} {key : α → Int} {n z t : Nat} {xs : List α} (h : Upto key z t xs) (hn : n ≤ z * t + z) (hs : Srt key (z * t) n xs) : Blk key n z 0 xs := fun u => by
  rw [Nat.zero_add]
  rcases Nat.lt_trichotomy u t with h9 | h9 | h9
  · exact (h u h9).less (Nat.le_refl _) (Nat.min_le_left _ _)
  · subst h9
    exact hs.less (Nat.le_refl _) (Nat.min_le_right _ _)
  · have := Nat.mul_le_mul_left z (show t + 1 ≤ u by omega)
    rw [Nat.mul_succ] at this
    exact Srt.none_ (by have := Nat.min_le_right (z * u + z) n; omega)
theorem Blk.first {α : Type} {key : α → Int} {n z a : Nat} {xs : List α} (h : Blk key n z a xs) : Srt key a (min (a + z) n) xs := by
  have := h 0
  rwa [Nat.mul_zero, Nat.add_zero] at this
theorem Blk.rest {α : Type} {key : α → Int} {n z a : Nat} {xs : List α} (h : Blk key n z a xs) : Blk key n z (a + z) xs := fun u => by
  have := h (u + 1)
  rwa [Nat.mul_succ, show a + (z * u + z) = a + z + z * u by omega] at this
theorem Blk.sr {α : Type} {key : α → Int} {n z a a0 : Nat} {xs ys : List α} (h : Blk key n z a xs) (hs : SR key a0 a xs ys) : Blk key n z a ys := fun u =>
  (h u).keep fun i q1 q2 => hs.out i (.inr (by omega))
theorem Blk.all {α : Type} {key : α → Int} {n z : Nat} {xs : List α} (h : Blk key n z 0 xs) (hz : n ≤ z) : Srt key 0 n xs := h.first.less (Nat.le_refl _) (by rw [Nat.zero_add]; omega)
set_option maxHeartbeats 16000000 in
set_option maxRecDepth 100000 in
theorem stableR (lo g n c : Nat) (xs : List Tri) (w : World) (h : OwnK w lo (some ⟨g, 0, none⟩) n c xs) (hn : n ≤ 4194304) :
    Calls Try.prog 114 #[.slice (some ⟨g, 0, none⟩) n c, .int .i64 n, .func (.func 102) #[] #[]] w (RetSrtR w lo g n c xs 0 n) := by
  have HO := hide h
  clear h
  go_enter Try.func114, Try.ntmps114
  go_wp2
  go_loopw [7, 8] (fun a b wr => ∃ (p q t : Nat) (ys : List Tri), p ≤ n ∧ q = p + 20 ∧ p = 20 * t ∧ a = .int .i64 p ∧ b = .int .i64 q ∧ Hid (OwnK wr lo (some ⟨g, 0, none⟩) n c ys) ∧ Hid (w.grownBy wr (some g)) ∧ Hid (SR Tri.d 0 n xs ys) ∧ Hid (Upto Tri.d 20 t ys)) (fun a _ _ => n - (intOf a).toNat)
  case atStart => exact ⟨0, 20, 0, xs, by omega, rfl, rfl, rfl, rfl, HO, World.grownBy.refl _ _, SR.refl _ _ _, fun u hu => by omega⟩
  case round =>
    obtain ⟨p, q, t, ys, hp, hq, hpt, rfl, rfl, hO, hG, hS, hU⟩ := hrel
    by_cases hlt : q ≤ n
    · have HC := hide (insSortR lo g n c ys p q wr (unhide hO) (by omega) hlt hn)
      have HPQ := hide hq
      have HPT := hide hpt
      clear hq hpt
      go_wp2_with fail
      refine (unhide HC).mono ?_
      rintro e w1 ⟨zs, rfl, hO1, hg1, hs1, ht1⟩
      have HO1 := hide hO1
      have HG1 := hide (grownBy_trans (unhide hG) hg1)
      have HS1 := hide ((unhide hS).trans (hs1.wide (Nat.zero_le _) hlt))
      have HU1 : Hid (Upto Tri.d 20 (t + 1) zs) := by
        have e1 := unhide HPT
        have e2 := unhide HPQ
        subst e2 e1
        exact ((unhide hU).sr hs1).next ht1
      clear hO1 hg1 hs1 ht1 HC
      go_wp2_with fail
      go_roundw
      case rel => exact ⟨q, q + 20, t + 1, zs, by omega, rfl, by have := unhide HPQ; have := unhide HPT; omega, rfl, by go_num, HO1, HG1, HS1, HU1⟩
      case measure => have := unhide HPQ; simp [intOf] <;> omega
    · have HC := hide (insSortR lo g n c ys p n wr (unhide hO) hp (Nat.le_refl _) hn)
      have HPQ := hide hq
      have HPT := hide hpt
      clear hq hpt
      go_wp2_with fail
      refine (unhide HC).mono ?_
      rintro e w1 ⟨zs, rfl, hO1, hg1, hs1, ht1⟩
      have HO1 := hide hO1
      have HG1 := hide (grownBy_trans (unhide hG) hg1)
      have HS1 := hide ((unhide hS).trans (hs1.wide (Nat.zero_le _) (Nat.le_refl _)))
      have HB1 : Hid (Blk Tri.d n 20 0 zs) := by
        have e1 := unhide HPT
        have e2 := unhide HPQ
        subst e2 e1
        exact ((unhide hU).sr hs1).blk (by omega) ht1
      have hO' := HO1
      clear hO1 hg1 hs1 ht1 HC hO' HPQ HPT hO hG hS hU
      obtain ⟨wo, rfl⟩ : ∃ wo : World, wo = wr := ⟨_, rfl⟩
      go_wp2_with fail
      go_loopw [6] (fun z wj => ∃ (y : Nat) (us : List Tri), 0 < y ∧ y ≤ 8388608 ∧ z = .int .i64 y ∧ Hid (OwnK wj lo (some ⟨g, 0, none⟩) n c us) ∧ Hid (w.grownBy wj (some g)) ∧ Hid (SR Tri.d 0 n xs us) ∧ Hid (Blk Tri.d n y 0 us)) (fun z _ => n - (intOf z).toNat)
      case atStart => exact ⟨20, zs, by omega, by omega, rfl, HO1, HG1, HS1, HB1⟩
      case round =>
        obtain ⟨y, us, hy0, hy1, rfl, hO, hG, hS, hB⟩ := hrel
        by_cases hyn : y < n
        · obtain ⟨wp, rfl⟩ : ∃ wp : World, wp = wr := ⟨_, rfl⟩
          go_wp2_with fail
          go_loopw [7, 8] (fun a b wk => ∃ (p q t : Nat) (vs : List Tri), p ≤ n ∧ q = p + 2 * y ∧ p = (2 * y) * t ∧ a = .int .i64 p ∧ b = .int .i64 q ∧ Hid (OwnK wk lo (some ⟨g, 0, none⟩) n c vs) ∧ Hid (w.grownBy wk (some g)) ∧ Hid (SR Tri.d 0 n xs vs) ∧ Hid (Upto Tri.d (2 * y) t vs) ∧ Hid (Blk Tri.d n y p vs)) (fun a _ _ => n - (intOf a).toNat)
          case atStart => exact ⟨0, 2 * y, 0, us, by omega, by omega, by omega, rfl, by go_num, hO, hG, hS, fun u hu => by omega, hB⟩
          case round =>
            obtain ⟨p, q, t, vs, hp, hq, hpt, rfl, rfl, hO, hG, hS, hU, hK⟩ := hrel
            by_cases hqn : q ≤ n
            · have HC := hide (symMergeR (q - p) lo g n c vs p (p + y) q (p : Int) ((p : Int) + (y : Int)) (q : Int) wr (unhide hO) rfl (by omega) rfl (Nat.le_refl _) (by omega) (by omega) hqn hn ((unhide hK).first.less (Nat.le_refl _) (by omega)) ((unhide hK).rest.first.less (Nat.le_refl _) (by omega)))
              have HPQ := hide hq
              have HPT := hide hpt
              have hpq : p + 2 * y ≤ q := by omega
              have hpy : p + y < q := by omega
              clear hq hpt
              go_wp2_with fail
              refine (unhide HC).mono ?_
              rintro e w1 ⟨zz, rfl, hO1, hg1, hs1, ht1⟩
              have HO1 := hide hO1
              have HG1 := hide (grownBy_trans (unhide hG) hg1)
              have HS1 := hide ((unhide hS).trans (hs1.wide (Nat.zero_le _) hqn))
              have HU1 : Hid (Upto Tri.d (2 * y) (t + 1) zz) := by
                have e1 := unhide HPT
                have e2 := unhide HPQ
                subst e2 e1
                exact ((unhide hU).sr hs1).next ht1
              have HK1 : Hid (Blk Tri.d n y q zz) := by
                have h8 := (unhide hK).rest.rest
                rw [show p + y + y = q by have := unhide HPQ; omega] at h8
                exact h8.sr hs1
              clear hO1 hg1 hs1 ht1 HC
              go_wp2_with fail
              go_roundw
              case rel => exact ⟨q, q + 2 * y, t + 1, zz, by omega, rfl, by have e1 := unhide HPQ; have e2 := unhide HPT; rw [Nat.mul_succ]; omega, rfl, by go_num, HO1, HG1, HS1, HU1, HK1⟩
              case measure => simp [intOf] <;> omega
            · have HPQ := hide hq
              have HPT := hide hpt
              have hqn2 : n < p + 2 * y := by omega
              clear hq hpt
              by_cases hmn : p + y < n
              · have HC := hide (symMergeR (n - p) lo g n c vs p (p + y) n (p : Int) ((p : Int) + (y : Int)) (n : Int) wr (unhide hO) rfl (by omega) rfl (Nat.le_refl _) (by omega) hmn (Nat.le_refl _) hn ((unhide hK).first.less (Nat.le_refl _) (by omega)) ((unhide hK).rest.first.less (Nat.le_refl _) (by omega)))
                go_wp2_with fail
                refine (unhide HC).mono ?_
                rintro e w1 ⟨zz, rfl, hO1, hg1, hs1, ht1⟩
                have HO1 := hide hO1
                have HG1 := hide (grownBy_trans (unhide hG) hg1)
                have HS1 := hide ((unhide hS).trans (hs1.wide (Nat.zero_le _) (Nat.le_refl _)))
                have HB1 : Hid (Blk Tri.d n (2 * y) 0 zz) := by
                  have e1 := unhide HPT
                  subst e1
                  exact ((unhide hU).sr hs1).blk (by omega) ht1
                clear hO1 hg1 hs1 ht1 HC
                go_wp2_with fail
                go_roundw
                case rel => exact ⟨2 * y, zz, by omega, by omega, by go_num, HO1, HG1, HS1, HB1⟩
                case measure => simp [intOf] <;> omega
              · have HB1 : Hid (Blk Tri.d n (2 * y) 0 vs) := by
                  have e1 := unhide HPT
                  have h8 := (unhide hK).first
                  subst e1
                  exact (unhide hU).blk (by omega) (h8.less (Nat.le_refl _) (by omega))
                go_wp2_with fail
                go_roundw
                case rel => exact ⟨2 * y, vs, by omega, by omega, by go_num, hO, hG, hS, HB1⟩
                case measure => simp [intOf] <;> omega
        · go_wp2_with fail
          go_end0
          exact ⟨us, rfl, unhide hO, unhide hG, unhide hS, (unhide hB).all (by omega)⟩

theorem SortStableR (lo g n c : Nat) (xs : List Tri) (w : World) (h : OwnK w lo (some ⟨g, 0, none⟩) n c xs) (hn : n ≤ 4194304) :
    Calls Try.prog 101 #[.slice (some ⟨g, 0, none⟩) n c, .func (.func 102) #[] #[]] w (RetSrtR w lo g n c xs 0 n) := by
  have HC := hide (stableR lo g n c xs w h hn)
  clear h
  go_enter Try.func101, Try.ntmps101
  go_wp2_with fail
  refine (unhide HC).mono ?_
  rintro e w1 ⟨ys, rfl, h1, h2, h3, h4⟩
  have H9 := hide (And.intro h1 (And.intro h2 (And.intro h3 h4)))
  clear h1 h2 h3 h4 HC
  go_wp2_with fail
  go_end0
  exact ⟨ys, rfl, unhide H9⟩
end Go.Proofs.Ytihkocplgciifaa
