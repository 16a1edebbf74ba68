/- slices.symMergeCmpFunc at one element type: the walk. (By gen_sortR.py.) -/
import Derived.Test.YtihkocplgciifaaProg
import Derived.Test.YtihkocplgciifaaSortR
namespace Go.Proofs.Ytihkocplgciifaa
open Go.RowKit

theorem cmp_negR (a b : Int) : decide (cmpI a b < 0) = decide (a < b) := by
  unfold cmpI
  by_cases h1 : a < b
  · rw [if_pos h1]; simp [h1]
  · rw [if_neg h1]
    split <;> simp [h1]

set_option maxHeartbeats 16000000 in
set_option maxRecDepth 100000 in
theorem symLeftR (lo g n c : Nat) (xs : List Tri) (a m b : Nat) (ai mi bi : Int) (w : World) (h : OwnK w lo (some ⟨g, 0, none⟩) n c xs) (hai : ai = (a : Int)) (hmi : mi = (m : Int)) (hbi : bi = (b : Int)) (ham : a + 1 = m) (hmb : m < b) (hbn : b ≤ n) (hn : n ≤ 4194304) (S1 : Srt Tri.d a m xs) (S2 : Srt Tri.d m b xs) :
    Calls Try.prog 122 #[.slice (some ⟨g, 0, none⟩) n c, .int .i64 ai, .int .i64 mi, .int .i64 bi, .func (.func 102) #[] #[]] w (RetSrtR w lo g n c xs a b) := by
  subst hai hmi hbi
  have HO := hide h
  have HS1 := hide S1
  have HS2 := hide S2
  have HLX := hide h.len
  clear h S1 S2
  have t1 : ((m : Int) - (a : Int) == 1) = true := by simp; omega
  obtain ⟨x, hx, _⟩ := (unhide HO).el (j := a) (by omega)
  go_enter Try.func122, Try.ntmps122
  go_wp2
  go_loopw [10, 11] (fun i j wr => ∃ (p q : Nat), m ≤ p ∧ p ≤ q ∧ q ≤ b ∧ i = .int .i64 p ∧ j = .int .i64 q ∧ Hid (OwnK wr lo (some ⟨g, 0, none⟩) n c xs) ∧ Hid (w.grownBy wr (some g)) ∧ Hid (∀ t y, a < t → t < p → xs[t]? = some y → Tri.d y < x.d) ∧ Hid (∀ t y, q ≤ t → t < b → xs[t]? = some y → x.d ≤ Tri.d y)) (fun i j _ => (intOf j).toNat - (intOf i).toNat)
  case atStart => exact ⟨m, b, by omega, by omega, by omega, rfl, rfl, HO, World.grownBy.refl _ _, fun t y q1 q2 => by omega, fun t y q1 q2 => by omega⟩
  case round =>
    obtain ⟨p, q, hp, hpq, hq, rfl, rfl, hO, hG, hL, hR⟩ := hrel
    by_cases hlt : p < q
    · obtain ⟨h, hh⟩ : ∃ h : Nat, h = (p + q) / 2 := ⟨_, rfl⟩
      have hh1 : p ≤ h := by omega
      have hh2 : h < q := by omega
      obtain ⟨cx0, fx0⟩ := (unhide hO).elOf (unhide hx)
      obtain ⟨y, hy, cy0, fy0⟩ := (unhide hO).el (j := h) (by omega)
      have hgz : g < wr.heap.size := ((unhide hO).form (by omega)).elim fun g' h9 => by obtain ⟨h8, _, h7, _⟩ := h9; injection h8 with h8; injection h8 with h8; omega
      have ax0 : ∀ s : Abv wr, s.w.cell? ⟨g, a, none⟩ = some (.slice (some ⟨x.b, 0, none⟩) 3 3) := Abv.cell hgz cx0
      have ay0 : ∀ s : Abv wr, s.w.cell? ⟨g, h, none⟩ = some (.slice (some ⟨y.b, 0, none⟩) 3 3) := Abv.cell hgz cy0
      have HC := hide ((unhide hO).cmp (unhide hy) (unhide hx))
      have HX9 := hide (cmp_negR (y.d) (x.d))
      generalize cmpI (y.d) (x.d) = cv at HC HX9
      have l1 : (h : Int) < (n : Int) := by omega
      have l2 : (0 : Int) ≤ (h : Int) := by omega
      have l3 : (a : Int) < (n : Int) := by omega
      have l4 : (0 : Int) ≤ (a : Int) := by omega
      have HE : Hid (((p : Int) + (q : Int)) / 2 = (h : Int)) := by unfold Hid; omega
      clear cx0 fx0 cy0 fy0
      clear hh
      rcases hd : decide (y.d < x.d) with _ | _
      · have hX : decide (cv < 0) = false := by rw [unhide HX9, hd]
        have hR2 : Hid (∀ t y, h ≤ t → t < b → xs[t]? = some y → x.d ≤ Tri.d y) := fun t y q1 q2 ht => by
          have d1 := of_decide_eq_false hd
          rcases Nat.lt_or_ge h t with h9 | h9
          · have d2 := unhide HS2 h t _ y (by omega) h9 (by omega) (unhide hy) ht
            omega
          · obtain rfl : h = t := by omega
            rw [unhide hy] at ht
            cases ht
            omega
        have he := unhide HE
        clear hd hy HX9 HE
        go_wp2_with fail
        refine wp_region_abv wr (by kernel_rfl) (by kernel_rfl) (Below.refl _ _) ?_
        repeat (go_big_quiet_step ((first | (go_at_call 102; exact Calls.abv (unhide HC _)))))
        refine wpQuiet_nil ?_
        intro _ hw'
        obtain ⟨sv, hw''⟩ := hw'
        subst hw''
        clear he
        go_wp2_with fail
        go_roundw
        case rel => exact ⟨p, h, by omega, by omega, by omega, rfl, rfl, (unhide hO).below sv.h (Nat.le_refl _), grown_abvR (unhide hG) sv, hL, hR2⟩
        case measure => simp [intOf] <;> omega
      · have hX : decide (cv < 0) = true := by rw [unhide HX9, hd]
        have hL2 : Hid (∀ t y, a < t → t < h + 1 → xs[t]? = some y → Tri.d y < x.d) := fun t y q1 q2 ht => by
          have d1 := of_decide_eq_true hd
          rcases Nat.lt_or_ge t h with h9 | h9
          · have d2 := unhide HS2 t h y _ (by omega) h9 (by omega) ht (unhide hy)
            omega
          · obtain rfl : h = t := by omega
            rw [unhide hy] at ht
            cases ht
            omega
        have he := unhide HE
        clear hd hy HX9 HE
        go_wp2_with fail
        refine wp_region_abv wr (by kernel_rfl) (by kernel_rfl) (Below.refl _ _) ?_
        repeat (go_big_quiet_step ((first | (go_at_call 102; exact Calls.abv (unhide HC _)))))
        refine wpQuiet_nil ?_
        intro _ hw'
        obtain ⟨sv, hw''⟩ := hw'
        subst hw''
        clear he
        go_wp2_with fail
        go_roundw
        case rel => exact ⟨h + 1, q, by omega, by omega, by omega, by go_num, rfl, (unhide hO).below sv.h (Nat.le_refl _), grown_abvR (unhide hG) sv, hL2, hR⟩
        case measure => simp [intOf] <;> omega
    · obtain rfl : p = q := by omega
      obtain ⟨r, rfl⟩ : ∃ r, p = r + 1 := ⟨p - 1, by omega⟩
      obtain ⟨wo, rfl⟩ : ∃ wo : World, wo = wr := ⟨_, rfl⟩
      go_wp2_with fail
      go_loopw [13] (fun i wj => ∃ (t : Nat) (ys : List Tri), a ≤ t ∧ t ≤ r ∧ i = .int .i64 t ∧ Hid (OwnK wj lo (some ⟨g, 0, none⟩) n c ys) ∧ Hid (w.grownBy wj (some g)) ∧ Hid (SR Tri.d a b xs ys) ∧ Hid (MvR a t xs ys)) (fun i _ => r - (intOf i).toNat)
      case atStart => exact ⟨a, xs, by omega, by omega, rfl, hO, hG, SR.refl _ _ _, MvR.start _ _⟩
      case round =>
        obtain ⟨t, ys, ht1, ht2, rfl, hO, hG, hS, hM⟩ := hrel
        by_cases hlt : t < r
        · have ex : Hid (ys[t]? = some x) := by unfold Hid; rw [(unhide hM).get, if_neg (by omega), if_pos rfl]; exact unhide hx
          obtain ⟨cx0, fx0⟩ := (unhide hO).elOf (unhide ex)
          obtain ⟨y, hy, cy0, fy0⟩ := (unhide hO).el (j := t + 1) (by omega)
          have hyx : y.d < x.d := by
            have e9 := (unhide hM).get (t + 1)
            rw [if_neg (by omega), if_neg (by omega), unhide hy] at e9
            exact unhide hL (t + 1) _ (by omega) (by omega) e9.symm
          have HS3 := hide ((unhide hS).trans ((SR.swap (unhide ex) (unhide hy) hyx).wide (a' := a) (b' := b) (by omega) (by omega)))
          have HM3 := hide ((unhide hM).step ht1 (unhide ex) (unhide hy))
          have HSW := hide (fun (W : World) (hO : OwnK W lo (some ⟨g, 0, none⟩) n c ys) => hO.swap (unhide ex) (unhide hy))
          have l1 : (t : Int) + 1 < (n : Int) := by omega
          have l2 : (0 : Int) ≤ (t : Int) + 1 := by omega
          have l3 : (t : Int) < (n : Int) := by omega
          have l4 : (0 : Int) ≤ (t : Int) := by omega
          have HE1 : Hid (IntKind.i64.wrap ((t : Int) + 1) = (t : Int) + 1) := IntWalk.i64_in _ (by omega)
          clear ex hy hyx hS hM
          have s1 := unhide HE1
          go_wp2_with fail
          go_region
          all_goals
            clear s1
            go_wp2_with fail
            go_roundw
            case rel => exact ⟨t + 1, swp ys t (t + 1), by omega, by omega, by go_num, (unhide HSW _ (unhide hO)).1.dr, grown_todrR (grownBy_trans (unhide hG) (unhide HSW _ (unhide hO)).2), HS3, HM3⟩
            case measure => simp [intOf] <;> omega
        · obtain rfl : t = r := by omega
          have HT : Hid (Srt Tri.d a b ys) := MvR.srt (a := a) (i := t + 1) (by simpa using unhide hM) (by omega) (by omega) (unhide hx) ((unhide HS2).less (by omega) (Nat.le_refl _)) (fun u y q1 q2 hu => Int.le_of_lt (unhide hL u y q1 q2 hu)) (unhide hR)
          go_wp2
          go_end0
          exact ⟨ys, rfl, unhide hO, unhide hG, unhide hS, unhide HT⟩

set_option maxHeartbeats 16000000 in
set_option maxRecDepth 100000 in
theorem symRightR (lo g n c : Nat) (xs : List Tri) (a m b : Nat) (ai mi bi : Int) (w : World) (h : OwnK w lo (some ⟨g, 0, none⟩) n c xs) (hai : ai = (a : Int)) (hmi : mi = (m : Int)) (hbi : bi = (b : Int)) (ham : a + 1 < m) (hmb : m + 1 = b) (hbn : b ≤ n) (hn : n ≤ 4194304) (S1 : Srt Tri.d a m xs) (S2 : Srt Tri.d m b xs) :
    Calls Try.prog 122 #[.slice (some ⟨g, 0, none⟩) n c, .int .i64 ai, .int .i64 mi, .int .i64 bi, .func (.func 102) #[] #[]] w (RetSrtR w lo g n c xs a b) := by
  subst hai hmi hbi
  have HO := hide h
  have HS1 := hide S1
  have HS2 := hide S2
  have HLX := hide h.len
  clear h S1 S2
  have t1 : ((m : Int) - (a : Int) == 1) = false := by simp; omega
  have t2 : ((b : Int) - (m : Int) == 1) = true := by simp; omega
  obtain ⟨x, hx, _⟩ := (unhide HO).el (j := m) (by omega)
  go_enter Try.func122, Try.ntmps122
  go_wp2
  go_loopw [14, 15] (fun i j wr => ∃ (p q : Nat), a ≤ p ∧ p ≤ q ∧ q ≤ m ∧ i = .int .i64 p ∧ j = .int .i64 q ∧ Hid (OwnK wr lo (some ⟨g, 0, none⟩) n c xs) ∧ Hid (w.grownBy wr (some g)) ∧ Hid (∀ t y, a ≤ t → t < p → xs[t]? = some y → Tri.d y ≤ x.d) ∧ Hid (∀ t y, q ≤ t → t < m → xs[t]? = some y → x.d < Tri.d y)) (fun i j _ => (intOf j).toNat - (intOf i).toNat)
  case atStart => exact ⟨a, m, by omega, by omega, by omega, rfl, rfl, HO, World.grownBy.refl _ _, fun t y q1 q2 => by omega, fun t y q1 q2 => by omega⟩
  case round =>
    obtain ⟨p, q, hp, hpq, hq, rfl, rfl, hO, hG, hL, hR⟩ := hrel
    by_cases hlt : p < q
    · obtain ⟨h, hh⟩ : ∃ h : Nat, h = (p + q) / 2 := ⟨_, rfl⟩
      have hh1 : p ≤ h := by omega
      have hh2 : h < q := by omega
      obtain ⟨cx0, fx0⟩ := (unhide hO).elOf (unhide hx)
      obtain ⟨y, hy, cy0, fy0⟩ := (unhide hO).el (j := h) (by omega)
      have hgz : g < wr.heap.size := ((unhide hO).form (by omega)).elim fun g' h9 => by obtain ⟨h8, _, h7, _⟩ := h9; injection h8 with h8; injection h8 with h8; omega
      have ax0 : ∀ s : Abv wr, s.w.cell? ⟨g, m, none⟩ = some (.slice (some ⟨x.b, 0, none⟩) 3 3) := Abv.cell hgz cx0
      have ay0 : ∀ s : Abv wr, s.w.cell? ⟨g, h, none⟩ = some (.slice (some ⟨y.b, 0, none⟩) 3 3) := Abv.cell hgz cy0
      have HC := hide ((unhide hO).cmp (unhide hx) (unhide hy))
      have HX9 := hide (cmp_negR (x.d) (y.d))
      generalize cmpI (x.d) (y.d) = cv at HC HX9
      have l1 : (h : Int) < (n : Int) := by omega
      have l2 : (0 : Int) ≤ (h : Int) := by omega
      have l3 : (m : Int) < (n : Int) := by omega
      have l4 : (0 : Int) ≤ (m : Int) := by omega
      have HE : Hid (((p : Int) + (q : Int)) / 2 = (h : Int)) := by unfold Hid; omega
      clear cx0 fx0 cy0 fy0
      clear hh
      rcases hd : decide (x.d < y.d) with _ | _
      · have hX : decide (cv < 0) = false := by rw [unhide HX9, hd]
        have hL2 : Hid (∀ t y, a ≤ t → t < h + 1 → xs[t]? = some y → Tri.d y ≤ x.d) := fun t y q1 q2 ht => by
          have d1 := of_decide_eq_false hd
          rcases Nat.lt_or_ge t h with h9 | h9
          · have d2 := unhide HS1 t h y _ (by omega) h9 (by omega) ht (unhide hy)
            omega
          · obtain rfl : h = t := by omega
            rw [unhide hy] at ht
            cases ht
            omega
        have he := unhide HE
        clear hd hy HX9 HE
        go_wp2_with fail
        refine wp_region_abv wr (by kernel_rfl) (by kernel_rfl) (Below.refl _ _) ?_
        repeat (go_big_quiet_step ((first | (go_at_call 102; exact Calls.abv (unhide HC _)))))
        refine wpQuiet_nil ?_
        intro _ hw'
        obtain ⟨sv, hw''⟩ := hw'
        subst hw''
        clear he
        go_wp2_with fail
        go_roundw
        case rel => exact ⟨h + 1, q, by omega, by omega, by omega, by go_num, rfl, (unhide hO).below sv.h (Nat.le_refl _), grown_abvR (unhide hG) sv, hL2, hR⟩
        case measure => simp [intOf] <;> omega
      · have hX : decide (cv < 0) = true := by rw [unhide HX9, hd]
        have hR2 : Hid (∀ t y, h ≤ t → t < m → xs[t]? = some y → x.d < Tri.d y) := fun t y q1 q2 ht => by
          have d1 := of_decide_eq_true hd
          rcases Nat.lt_or_ge h t with h9 | h9
          · have d2 := unhide HS1 h t _ y (by omega) h9 (by omega) (unhide hy) ht
            omega
          · obtain rfl : h = t := by omega
            rw [unhide hy] at ht
            cases ht
            omega
        have he := unhide HE
        clear hd hy HX9 HE
        go_wp2_with fail
        refine wp_region_abv wr (by kernel_rfl) (by kernel_rfl) (Below.refl _ _) ?_
        repeat (go_big_quiet_step ((first | (go_at_call 102; exact Calls.abv (unhide HC _)))))
        refine wpQuiet_nil ?_
        intro _ hw'
        obtain ⟨sv, hw''⟩ := hw'
        subst hw''
        clear he
        go_wp2_with fail
        go_roundw
        case rel => exact ⟨p, h, by omega, by omega, by omega, rfl, rfl, (unhide hO).below sv.h (Nat.le_refl _), grown_abvR (unhide hG) sv, hL, hR2⟩
        case measure => simp [intOf] <;> omega
    · obtain rfl : p = q := by omega
      obtain ⟨wo, rfl⟩ : ∃ wo : World, wo = wr := ⟨_, rfl⟩
      go_wp2_with fail
      go_loopw [17] (fun i wj => ∃ (t : Nat) (ys : List Tri), p ≤ t ∧ t ≤ m ∧ i = .int .i64 t ∧ Hid (OwnK wj lo (some ⟨g, 0, none⟩) n c ys) ∧ Hid (w.grownBy wj (some g)) ∧ Hid (SR Tri.d a b xs ys) ∧ Hid (MvL m t xs ys)) (fun i _ => (intOf i).toNat)
      case atStart => exact ⟨m, xs, by omega, by omega, rfl, hO, hG, SR.refl _ _ _, MvL.start _ _⟩
      case round =>
        obtain ⟨t, ys, ht1, ht2, rfl, hO, hG, hS, hM⟩ := hrel
        by_cases hlt : p < t
        · obtain ⟨r, rfl⟩ : ∃ r, t = r + 1 := ⟨t - 1, by omega⟩
          have ex : Hid (ys[r + 1]? = some x) := by unfold Hid; rw [(unhide hM).get, if_neg (by omega), if_pos rfl]; exact unhide hx
          obtain ⟨cx0, fx0⟩ := (unhide hO).elOf (unhide ex)
          obtain ⟨y, hy, cy0, fy0⟩ := (unhide hO).el (j := r) (by omega)
          have hyx : x.d < y.d := by
            have e9 := (unhide hM).get r
            rw [if_neg (by omega), if_neg (by omega), unhide hy] at e9
            exact unhide hR r _ (by omega) (by omega) e9.symm
          have HS3 := hide ((unhide hS).trans (SR.sink (a := a) (b := b) (by omega) (by omega) (unhide hy) (unhide ex) hyx))
          have HM3 := hide ((unhide hM).step ht2 (unhide hy) (unhide ex))
          have HSW := hide (fun (W : World) (hO : OwnK W lo (some ⟨g, 0, none⟩) n c ys) => hO.swap (unhide ex) (unhide hy))
          have l1 : (r : Int) + 1 < (n : Int) := by omega
          have l2 : (0 : Int) ≤ (r : Int) + 1 := by omega
          have l3 : (r : Int) < (n : Int) := by omega
          have l4 : (0 : Int) ≤ (r : Int) := by omega
          have HE1 : Hid (IntKind.i64.wrap ((r : Int) + 1 - 1) = (r : Int)) := by unfold Hid; rw [Int.add_sub_cancel]; exact IntWalk.i64_in _ (by omega)
          clear ex hy hyx hS hM
          have s1 := unhide HE1
          go_wp2_with fail
          go_region
          all_goals
            clear s1
            go_wp2_with fail
            go_roundw
            case rel => exact ⟨r, swp ys (r + 1) r, by omega, by omega, rfl, (unhide HSW _ (unhide hO)).1.dr, grown_todrR (grownBy_trans (unhide hG) (unhide HSW _ (unhide hO)).2), HS3, HM3⟩
            case measure => simp [intOf] <;> omega
        · obtain rfl : t = p := by omega
          have HT : Hid (Srt Tri.d a b ys) := by rw [← hmb]; exact MvL.srt (a := a) (i := t) (m := m) (unhide hM) (by omega) (by omega) (unhide hx) (unhide HS1) (unhide hL) (fun u y q1 q2 hu => Int.le_of_lt (unhide hR u y q1 q2 hu))
          go_wp2
          go_end0
          exact ⟨ys, rfl, unhide hO, unhide hG, unhide hS, unhide HT⟩

/-- what the search for the place of the rotation knows -/
structure SrchR {α : Type} (key : α → Int) (lo0 hi0 z p q : Nat) (xs : List α) : Prop where
  l : ∀ t x y, lo0 ≤ t → t < p → xs[t]? = some x → xs[z - t]? = some y → key x ≤ key y
  r : ∀ t x y, q ≤ t → t < hi0 → xs[t]? = some x → xs[z - t]? = some y → key y < key x
theorem SrchR.right {α : Type} {key : α → Int} {a m b lo0 hi0 z p q h : Nat} {xs : List α} {x y : α} (H : SrchR key lo0 hi0 z p q xs) (S1 : Srt key a m xs) (S2 : Srt key m b xs) (hx : xs[h]? = some x) (hy : xs[z - h]? = some y) (hle : key x ≤ key y)
    (h1 : a ≤ lo0) (h2 : hi0 ≤ m) (h3 : ∀ t, lo0 ≤ t → t < hi0 → m ≤ z - t ∧ z - t < b ∧ t ≤ z) (hp : p ≤ h) (hq : h < hi0) : SrchR key lo0 hi0 z (h + 1) q xs := by
  refine ⟨fun t u v q1 q2 hu hv => ?_, H.r⟩
  rcases Nat.lt_or_ge t h with h9 | h9
  · have e1 := S1 t h u x (by omega) h9 (by omega) hu hx
    have b1 := h3 t q1 (by omega)
    have b2 := h3 h (by omega) hq
    have e2 := S2 (z - h) (z - t) y v (by omega) (by omega) (by omega) hy hv
    omega
  · obtain rfl : t = h := by omega
    rw [hx] at hu; rw [hy] at hv
    cases hu; cases hv
    exact hle
theorem SrchR.left {α : Type} {key : α → Int} {a m b lo0 hi0 z p q h : Nat} {xs : List α} {x y : α} (H : SrchR key lo0 hi0 z p q xs) (S1 : Srt key a m xs) (S2 : Srt key m b xs) (hx : xs[h]? = some x) (hy : xs[z - h]? = some y) (hlt : key y < key x)
    (h1 : a ≤ lo0) (h2 : hi0 ≤ m) (h3 : ∀ t, lo0 ≤ t → t < hi0 → m ≤ z - t ∧ z - t < b ∧ t ≤ z) (hp : lo0 ≤ h) (hq : h < hi0) : SrchR key lo0 hi0 z p h xs := by
  refine ⟨H.l, fun t u v q1 q2 hu hv => ?_⟩
  rcases Nat.lt_or_ge h t with h9 | h9
  · have e1 := S1 h t x u (by omega) h9 (by omega) hx hu
    have b1 := h3 t (by omega) (by omega)
    have b2 := h3 h (by omega) hq
    have e2 := S2 (z - t) (z - h) v y (by omega) (by omega) (by omega) hv hy
    omega
  · obtain rfl : t = h := by omega
    rw [hx] at hu; rw [hy] at hv
    cases hu; cases hv
    exact hlt
set_option maxHeartbeats 64000000 in
set_option maxRecDepth 100000 in
theorem symMergeR (N : Nat) : ∀ (lo g n c : Nat) (xs : List Tri) (a m b : Nat) (ai mi bi : Int) (w : World), OwnK w lo (some ⟨g, 0, none⟩) n c xs → ai = (a : Int) → mi = (m : Int) → bi = (b : Int) → b - a ≤ N → a < m → m < b → b ≤ n → n ≤ 4194304 → Srt Tri.d a m xs → Srt Tri.d m b xs →
    Calls Try.prog 122 #[.slice (some ⟨g, 0, none⟩) n c, .int .i64 ai, .int .i64 mi, .int .i64 bi, .func (.func 102) #[] #[]] w (RetSrtR w lo g n c xs a b) := by
  induction N with
  | zero => intro lo g n c xs a m b ai mi bi w h _ _ _ h1 h2 h3; omega
  | succ N ih =>
    intro lo g n c xs a m b ai mi bi w h hai hmi hbi hN ham hmb hbn hn S1 S2
    by_cases hm1 : a + 1 = m
    · exact symLeftR lo g n c xs a m b ai mi bi w h hai hmi hbi hm1 hmb hbn hn S1 S2
    by_cases hb1 : m + 1 = b
    · exact symRightR lo g n c xs a m b ai mi bi w h hai hmi hbi (by omega) hb1 hbn hn S1 S2
    have hai' := hide hai
    obtain rfl : (a : Int) = ai := hai.symm
    obtain rfl : (m : Int) = mi := hmi.symm
    obtain rfl : (b : Int) = bi := hbi.symm
    clear hai hmi hbi hai'
    have IH := hide ih
    clear ih
    have HO := hide h
    have HS1 := hide S1
    have HS2 := hide S2
    have HLX := hide h.len
    clear h S1 S2
    have t1 : ((m : Int) - (a : Int) == 1) = false := by simp; omega
    have t2 : ((b : Int) - (m : Int) == 1) = false := by simp; omega
    obtain ⟨mid, hmid⟩ : ∃ mid : Nat, mid = (a + b) / 2 := ⟨_, rfl⟩
    have hmid1 : 2 * mid ≤ a + b := by omega
    have hmid2 : a + b ≤ 2 * mid + 1 := by omega
    have HE : Hid (((a : Int) + (b : Int)) / 2 = (mid : Int)) := by unfold Hid; omega
    clear hmid hm1 hb1
    by_cases hcase : mid < m
    · obtain ⟨z0, hz0⟩ : ∃ z0 : Nat, z0 + b = mid + m := ⟨mid + m - b, by omega⟩
      have hz1 : z0 ≤ mid := by omega
      have hz2 : a ≤ z0 := by omega
      have HZ : Hid ((mid : Int) + (m : Int) - (b : Int) = (z0 : Int)) := by unfold Hid; omega
      have h3 : ∀ t, z0 ≤ t → t < mid → m ≤ mid + m - 1 - t ∧ mid + m - 1 - t < b ∧ t ≤ mid + m - 1 := fun t q1 q2 => by omega
      have H3 := hide h3
      clear h3
      have he := unhide HE
      go_enter Try.func122, Try.ntmps122
      go_wp2_with fail
      go_loopw [20, 21] (fun i j wr => ∃ (p q : Nat), z0 ≤ p ∧ p ≤ q ∧ q ≤ mid ∧ i = .int .i64 p ∧ j = .int .i64 q ∧ Hid (OwnK wr lo (some ⟨g, 0, none⟩) n c xs) ∧ Hid (w.grownBy wr (some g)) ∧ Hid (SrchR Tri.d (z0) (mid) (mid + m - 1) p q xs)) (fun i j _ => (intOf j).toNat - (intOf i).toNat)
      case atStart => exact ⟨z0, mid, by omega, by omega, by omega, by rw [unhide HZ], rfl, HO, World.grownBy.refl _ _, ⟨fun t x y q1 q2 => by omega, fun t x y q1 q2 => by omega⟩⟩
      case round =>
        obtain ⟨p, q, hp, hpq, hq, rfl, rfl, hO, hG, hR⟩ := hrel
        by_cases hlt : p < q
        · obtain ⟨h, hh⟩ : ∃ h : Nat, h = (p + q) / 2 := ⟨_, rfl⟩
          have hh1 : p ≤ h := by omega
          have hh2 : h < q := by omega
          have HE2 : Hid (((p : Int) + (q : Int)) / 2 = (h : Int)) := by unfold Hid; omega
          obtain ⟨hu1, hu2, hu3⟩ := unhide H3 h (by omega) (by omega)
          obtain ⟨u, hu⟩ : ∃ u, u = mid + m - 1 - h := ⟨_, rfl⟩
          obtain ⟨x, hx, cx0, fx0⟩ := (unhide hO).el (j := h) (by omega)
          obtain ⟨y, hy, cy0, fy0⟩ := (unhide hO).el (j := u) (by omega)
          have hgz : g < wr.heap.size := ((unhide hO).form (by omega)).elim fun g' h9 => by obtain ⟨h8, _, h7, _⟩ := h9; injection h8 with h8; injection h8 with h8; omega
          have ax0 : ∀ s : Abv wr, s.w.cell? ⟨g, h, none⟩ = some (.slice (some ⟨x.b, 0, none⟩) 3 3) := Abv.cell hgz cx0
          have ay0 : ∀ s : Abv wr, s.w.cell? ⟨g, u, none⟩ = some (.slice (some ⟨y.b, 0, none⟩) 3 3) := Abv.cell hgz cy0
          have HC := hide ((unhide hO).cmp (unhide hy) (unhide hx))
          have HX9 := hide (cmp_negR (y.d) (x.d))
          generalize cmpI (y.d) (x.d) = cv at HC HX9
          have HY := hide (show xs[mid + m - 1 - h]? = some y by rw [← hu]; exact unhide hy)
          have l1 : (h : Int) < (n : Int) := by omega
          have l2 : (0 : Int) ≤ (h : Int) := by omega
          have l3 : (u : Int) < (n : Int) := by omega
          have l4 : (0 : Int) ≤ (u : Int) := by omega
          have HS9 : Hid (IntKind.i64.wrap ((mid : Int) + (m : Int) - 1 - (h : Int)) = (u : Int)) := by unfold Hid; rw [show (mid : Int) + (m : Int) - 1 - (h : Int) = (u : Int) by omega]; exact IntWalk.i64_in _ (by omega)
          clear cx0 fx0 cy0 fy0
          rcases hd : decide (y.d < x.d) with _ | _
          · have hX : decide (cv < 0) = false := by rw [unhide HX9, hd]
            have HR2 := hide ((unhide hR).right (unhide HS1) (unhide HS2) (unhide hx) (unhide HY) (by have := of_decide_eq_false hd; show x.d ≤ y.d; omega) (by omega) (by omega) (unhide H3) (by omega) (by omega))
            clear hd hx hy HY hu hu1 hu2 hu3 hh HX9
            have he2 := unhide HE2
            have s1 := unhide HS9
            clear HE2 HS9
            go_wp2_with fail
            refine wp_region_abv wr (by kernel_rfl) (by kernel_rfl) (Below.refl _ _) ?_
            repeat (go_big_quiet_step ((first | (go_at_call 102; exact Calls.abv (unhide HC _)))))
            refine wpQuiet_nil ?_
            intro _ hw'
            obtain ⟨sv, hw''⟩ := hw'
            subst hw''
            clear he2 s1
            go_wp2_with fail
            go_roundw
            case rel => exact ⟨h + 1, q, by omega, by omega, by omega, by go_num, rfl, (unhide hO).below sv.h (Nat.le_refl _), grown_abvR (unhide hG) sv, HR2⟩
            case measure => simp [intOf] <;> omega
          · have hX : decide (cv < 0) = true := by rw [unhide HX9, hd]
            have HR2 := hide ((unhide hR).left (unhide HS1) (unhide HS2) (unhide hx) (unhide HY) (of_decide_eq_true hd) (by omega) (by omega) (unhide H3) (by omega) (by omega))
            clear hd hx hy HY hu hu1 hu2 hu3 hh HX9
            have he2 := unhide HE2
            have s1 := unhide HS9
            clear HE2 HS9
            go_wp2_with fail
            refine wp_region_abv wr (by kernel_rfl) (by kernel_rfl) (Below.refl _ _) ?_
            repeat (go_big_quiet_step ((first | (go_at_call 102; exact Calls.abv (unhide HC _)))))
            refine wpQuiet_nil ?_
            intro _ hw'
            obtain ⟨sv, hw''⟩ := hw'
            subst hw''
            clear he2 s1
            go_wp2_with fail
            go_roundw
            case rel => exact ⟨p, h, by omega, by omega, by omega, rfl, rfl, (unhide hO).below sv.h (Nat.le_refl _), grown_abvR (unhide hG) sv, HR2⟩
            case measure => simp [intOf] <;> omega
        · obtain rfl : p = q := by omega
          obtain ⟨e, he2⟩ : ∃ e : Nat, e + p = mid + m := ⟨mid + m - p, by omega⟩
          have HT := hide (sym_step (key := Tri.d) (a := a) (m := m) (b := b) (s := p) (e := e) (mid := mid) (unhide HS1) (unhide HS2) (by omega) (by omega) (by omega) (by omega) (by have := unhide HLX; omega) (by omega)
            (fun x y q1 q2 hx hy => by
              rcases Nat.lt_or_ge (z0) p with h9 | h9
              · exact (unhide hR).l (p - 1) x y (by omega) (by omega) hx (by rw [show mid + m - 1 - (p - 1) = e by omega]; exact hy)
              · exfalso; omega)
            (fun x y q1 q2 hx hy => by
              rcases Nat.lt_or_ge p (mid) with h9 | h9
              · exact (unhide hR).r p x y (Nat.le_refl _) h9 hx (by rw [show mid + m - 1 - p = e - 1 by omega]; exact hy)
              · exfalso; omega))
          have hpm : p ≤ mid := by omega
          have hpm2 : p ≤ m := by omega
          have hem : m ≤ e := by omega
          have heb : e ≤ b := by omega
          have hap : a ≤ p := by omega
          have hme : mid ≤ e := by omega
          have HEe : Hid ((mid : Int) + (m : Int) - (p : Int) = (e : Int)) := by unfold Hid; omega
          have hzlen := unhide HLX
          clear hlt H3 hR
          by_cases hrt : p < m ∧ m < e
          · obtain ⟨hrt1, hrt2⟩ := hrt
            have RC := hide (rotateR lo g n c xs p m e wr (unhide hO) hrt1 hrt2 (by omega) hn)
            have he3 := unhide HEe
            go_wp2_with fail
            refine (unhide RC).mono ?_
            rintro e0 w1 ⟨rfl, hO1, hg1⟩
            have HO1 := hide hO1
            have HG1 := hide (grownBy_trans (unhide hG) hg1)
            clear hO1 hg1 RC he3
            obtain ⟨T0, T1, T2, T3, T4, T5⟩ := unhide HT
            have HT0 := hide T0
            have HT1 := hide T1
            have HT2 := hide T2
            have HT3 := hide T3
            have HT4 := hide T4
            have HT5 := hide T5
            clear T0 T1 T2 T3 T4 T5
            generalize rot p m e xs = r0 at HO1 HT0 HT1 HT2 HT3 HT4 HT5
            by_cases hr1 : a < p ∧ p < mid
            · obtain ⟨hr11, hr12⟩ := hr1
              have IC := hide (unhide IH lo g n c r0 a p mid (a : Int) (p : Int) (mid : Int) w1 (unhide HO1) rfl rfl rfl (by omega) hr11 hr12 (by omega) hn (unhide HT1) (unhide HT2))
              go_wp2_with fail
              refine (unhide IC).mono ?_
              rintro e1 w2 ⟨z1, rfl, hO2, hg2, hs2, ht2⟩
              have HO2 := hide hO2
              have HG2 := hide (grownBy_trans (unhide HG1) hg2)
              have HSa := hide hs2
              have HTa := hide ht2
              clear hO2 hg2 hs2 ht2 IC
              have HU3 : Hid (Srt Tri.d mid e z1) := (unhide HT3).keep fun i q1 q2 => (unhide HSa).out i (.inr q1)
              have HU4 : Hid (Srt Tri.d e b z1) := (unhide HT4).keep fun i q1 q2 => (unhide HSa).out i (.inr (by omega))
              by_cases hr2 : mid < e ∧ e < b
              · obtain ⟨hr21, hr22⟩ := hr2
                have IC2 := hide (fun W2 hO => unhide IH lo g n c z1 mid e b (mid : Int) (e : Int) (b : Int) W2 hO rfl rfl rfl (by omega) hr21 hr22 hbn hn (unhide HU3) (unhide HU4))
                go_wp2_with fail
                refine (unhide IC2 _ (unhide HO2)).mono ?_
                rintro e2 w3 ⟨z2, rfl, hO3, hg3, hs3, ht3⟩
                obtain ⟨J1, J2⟩ := sym_join (key := Tri.d) (by omega) (by omega) (unhide HSa) hs3 (unhide HTa) ht3 (unhide HT5)
                have HO3 := hide hO3
                have HG3 := hide (grownBy_trans (unhide HG2) hg3)
                have HJ1 := hide ((unhide HT0).trans J1)
                have HJ2 := hide J2
                clear hO3 hg3 hs3 ht3 J1 J2 IC2
                go_wp2_with fail
                go_end0
                exact ⟨z2, rfl, unhide HO3, unhide HG3, unhide HJ1, unhide HJ2⟩
              · have ht3 : Srt Tri.d mid b z1 := by
                  rcases (show e = mid ∨ e = b by omega) with h9 | h9
                  · rw [← h9]; exact unhide HU4
                  · rw [← h9]; exact unhide HU3
                obtain ⟨J1, J2⟩ := sym_join (key := Tri.d) (by omega) (by omega) (unhide HSa) (SR.refl mid b z1) (unhide HTa) ht3 (unhide HT5)
                have HJ1 := hide ((unhide HT0).trans J1)
                have HJ2 := hide J2
                clear J1 J2 ht3
                rcases (show ¬ mid < e ∨ (mid < e ∧ ¬ e < b) by omega) with hm1 | ⟨hm1, hm2⟩
                all_goals
                  go_wp2_with fail
                  go_end0
                  exact ⟨z1, rfl, unhide HO2, unhide HG2, unhide HJ1, unhide HJ2⟩
            · have HSa := hide (SR.refl (key := Tri.d) a mid r0)
              have HTa : Hid (Srt Tri.d a mid r0) := by
                rcases (show p = a ∨ p = mid by omega) with h9 | h9
                · subst h9; exact unhide HT2
                · subst h9; exact unhide HT1
              have HO2 := hide (unhide HO1)
              have HG2 := hide (unhide HG1)
              obtain ⟨z1, hz1⟩ : ∃ z, z = r0 := ⟨_, rfl⟩
              have HO2 : Hid (OwnK w1 lo (some ⟨g, 0, none⟩) n c z1) := by rw [hz1]; exact unhide HO2
              have HSa : Hid (SR Tri.d a mid r0 z1) := by rw [hz1]; exact unhide HSa
              have HTa : Hid (Srt Tri.d a mid z1) := by rw [hz1]; exact unhide HTa
              clear hz1
              rcases (show ¬ a < p ∨ (a < p ∧ ¬ p < mid) by omega) with hn1 | ⟨hn1, hn2⟩
              all_goals
                have HU3 : Hid (Srt Tri.d mid e z1) := (unhide HT3).keep fun i q1 q2 => (unhide HSa).out i (.inr q1)
                have HU4 : Hid (Srt Tri.d e b z1) := (unhide HT4).keep fun i q1 q2 => (unhide HSa).out i (.inr (by omega))
                by_cases hr2 : mid < e ∧ e < b
                · obtain ⟨hr21, hr22⟩ := hr2
                  have IC2 := hide (fun W2 hO => unhide IH lo g n c z1 mid e b (mid : Int) (e : Int) (b : Int) W2 hO rfl rfl rfl (by omega) hr21 hr22 hbn hn (unhide HU3) (unhide HU4))
                  go_wp2_with fail
                  refine (unhide IC2 _ (unhide HO2)).mono ?_
                  rintro e2 w3 ⟨z2, rfl, hO3, hg3, hs3, ht3⟩
                  obtain ⟨J1, J2⟩ := sym_join (key := Tri.d) (by omega) (by omega) (unhide HSa) hs3 (unhide HTa) ht3 (unhide HT5)
                  have HO3 := hide hO3
                  have HG3 := hide (grownBy_trans (unhide HG2) hg3)
                  have HJ1 := hide ((unhide HT0).trans J1)
                  have HJ2 := hide J2
                  clear hO3 hg3 hs3 ht3 J1 J2 IC2
                  go_wp2_with fail
                  go_end0
                  exact ⟨z2, rfl, unhide HO3, unhide HG3, unhide HJ1, unhide HJ2⟩
                · have ht3 : Srt Tri.d mid b z1 := by
                    rcases (show e = mid ∨ e = b by omega) with h9 | h9
                    · rw [← h9]; exact unhide HU4
                    · rw [← h9]; exact unhide HU3
                  obtain ⟨J1, J2⟩ := sym_join (key := Tri.d) (by omega) (by omega) (unhide HSa) (SR.refl mid b z1) (unhide HTa) ht3 (unhide HT5)
                  have HJ1 := hide ((unhide HT0).trans J1)
                  have HJ2 := hide J2
                  clear J1 J2 ht3
                  rcases (show ¬ mid < e ∨ (mid < e ∧ ¬ e < b) by omega) with hm1 | ⟨hm1, hm2⟩
                  all_goals
                    go_wp2_with fail
                    go_end0
                    exact ⟨z1, rfl, unhide HO2, unhide HG2, unhide HJ1, unhide HJ2⟩
          · have HO1 : Hid (OwnK wr lo (some ⟨g, 0, none⟩) n c (rot p m e xs)) := by
              rcases (show p = m ∨ m = e by omega) with h9 | h9
              · subst h9; unfold Hid; rw [rot_none_left (by omega) (by omega)]; exact unhide hO
              · subst h9; unfold Hid; rw [rot_none_right (by omega) (by omega)]; exact unhide hO
            have he3 := unhide HEe
            rcases (show ¬ p < m ∨ (p < m ∧ ¬ m < e) by omega) with hn3 | ⟨hn3, hn4⟩
            all_goals
              obtain ⟨T0, T1, T2, T3, T4, T5⟩ := unhide HT
              have HT0 := hide T0
              have HT1 := hide T1
              have HT2 := hide T2
              have HT3 := hide T3
              have HT4 := hide T4
              have HT5 := hide T5
              clear T0 T1 T2 T3 T4 T5
              generalize rot p m e xs = r0 at HO1 HT0 HT1 HT2 HT3 HT4 HT5
              by_cases hr1 : a < p ∧ p < mid
              · obtain ⟨hr11, hr12⟩ := hr1
                have IC := hide (unhide IH lo g n c r0 a p mid (a : Int) (p : Int) (mid : Int) wr (unhide HO1) rfl rfl rfl (by omega) hr11 hr12 (by omega) hn (unhide HT1) (unhide HT2))
                go_wp2_with fail
                refine (unhide IC).mono ?_
                rintro e1 w2 ⟨z1, rfl, hO2, hg2, hs2, ht2⟩
                have HO2 := hide hO2
                have HG2 := hide (grownBy_trans (unhide hG) hg2)
                have HSa := hide hs2
                have HTa := hide ht2
                clear hO2 hg2 hs2 ht2 IC
                have HU3 : Hid (Srt Tri.d mid e z1) := (unhide HT3).keep fun i q1 q2 => (unhide HSa).out i (.inr q1)
                have HU4 : Hid (Srt Tri.d e b z1) := (unhide HT4).keep fun i q1 q2 => (unhide HSa).out i (.inr (by omega))
                by_cases hr2 : mid < e ∧ e < b
                · obtain ⟨hr21, hr22⟩ := hr2
                  have IC2 := hide (fun W2 hO => unhide IH lo g n c z1 mid e b (mid : Int) (e : Int) (b : Int) W2 hO rfl rfl rfl (by omega) hr21 hr22 hbn hn (unhide HU3) (unhide HU4))
                  go_wp2_with fail
                  refine (unhide IC2 _ (unhide HO2)).mono ?_
                  rintro e2 w3 ⟨z2, rfl, hO3, hg3, hs3, ht3⟩
                  obtain ⟨J1, J2⟩ := sym_join (key := Tri.d) (by omega) (by omega) (unhide HSa) hs3 (unhide HTa) ht3 (unhide HT5)
                  have HO3 := hide hO3
                  have HG3 := hide (grownBy_trans (unhide HG2) hg3)
                  have HJ1 := hide ((unhide HT0).trans J1)
                  have HJ2 := hide J2
                  clear hO3 hg3 hs3 ht3 J1 J2 IC2
                  go_wp2_with fail
                  go_end0
                  exact ⟨z2, rfl, unhide HO3, unhide HG3, unhide HJ1, unhide HJ2⟩
                · have ht3 : Srt Tri.d mid b z1 := by
                    rcases (show e = mid ∨ e = b by omega) with h9 | h9
                    · rw [← h9]; exact unhide HU4
                    · rw [← h9]; exact unhide HU3
                  obtain ⟨J1, J2⟩ := sym_join (key := Tri.d) (by omega) (by omega) (unhide HSa) (SR.refl mid b z1) (unhide HTa) ht3 (unhide HT5)
                  have HJ1 := hide ((unhide HT0).trans J1)
                  have HJ2 := hide J2
                  clear J1 J2 ht3
                  rcases (show ¬ mid < e ∨ (mid < e ∧ ¬ e < b) by omega) with hm1 | ⟨hm1, hm2⟩
                  all_goals
                    go_wp2_with fail
                    go_end0
                    exact ⟨z1, rfl, unhide HO2, unhide HG2, unhide HJ1, unhide HJ2⟩
              · have HSa := hide (SR.refl (key := Tri.d) a mid r0)
                have HTa : Hid (Srt Tri.d a mid r0) := by
                  rcases (show p = a ∨ p = mid by omega) with h9 | h9
                  · subst h9; exact unhide HT2
                  · subst h9; exact unhide HT1
                have HO2 := hide (unhide HO1)
                have HG2 := hide (unhide hG)
                obtain ⟨z1, hz1⟩ : ∃ z, z = r0 := ⟨_, rfl⟩
                have HO2 : Hid (OwnK wr lo (some ⟨g, 0, none⟩) n c z1) := by rw [hz1]; exact unhide HO2
                have HSa : Hid (SR Tri.d a mid r0 z1) := by rw [hz1]; exact unhide HSa
                have HTa : Hid (Srt Tri.d a mid z1) := by rw [hz1]; exact unhide HTa
                clear hz1
                rcases (show ¬ a < p ∨ (a < p ∧ ¬ p < mid) by omega) with hn1 | ⟨hn1, hn2⟩
                all_goals
                  have HU3 : Hid (Srt Tri.d mid e z1) := (unhide HT3).keep fun i q1 q2 => (unhide HSa).out i (.inr q1)
                  have HU4 : Hid (Srt Tri.d e b z1) := (unhide HT4).keep fun i q1 q2 => (unhide HSa).out i (.inr (by omega))
                  by_cases hr2 : mid < e ∧ e < b
                  · obtain ⟨hr21, hr22⟩ := hr2
                    have IC2 := hide (fun W2 hO => unhide IH lo g n c z1 mid e b (mid : Int) (e : Int) (b : Int) W2 hO rfl rfl rfl (by omega) hr21 hr22 hbn hn (unhide HU3) (unhide HU4))
                    go_wp2_with fail
                    refine (unhide IC2 _ (unhide HO2)).mono ?_
                    rintro e2 w3 ⟨z2, rfl, hO3, hg3, hs3, ht3⟩
                    obtain ⟨J1, J2⟩ := sym_join (key := Tri.d) (by omega) (by omega) (unhide HSa) hs3 (unhide HTa) ht3 (unhide HT5)
                    have HO3 := hide hO3
                    have HG3 := hide (grownBy_trans (unhide HG2) hg3)
                    have HJ1 := hide ((unhide HT0).trans J1)
                    have HJ2 := hide J2
                    clear hO3 hg3 hs3 ht3 J1 J2 IC2
                    go_wp2_with fail
                    go_end0
                    exact ⟨z2, rfl, unhide HO3, unhide HG3, unhide HJ1, unhide HJ2⟩
                  · have ht3 : Srt Tri.d mid b z1 := by
                      rcases (show e = mid ∨ e = b by omega) with h9 | h9
                      · rw [← h9]; exact unhide HU4
                      · rw [← h9]; exact unhide HU3
                    obtain ⟨J1, J2⟩ := sym_join (key := Tri.d) (by omega) (by omega) (unhide HSa) (SR.refl mid b z1) (unhide HTa) ht3 (unhide HT5)
                    have HJ1 := hide ((unhide HT0).trans J1)
                    have HJ2 := hide J2
                    clear J1 J2 ht3
                    rcases (show ¬ mid < e ∨ (mid < e ∧ ¬ e < b) by omega) with hm1 | ⟨hm1, hm2⟩
                    all_goals
                      go_wp2_with fail
                      go_end0
                      exact ⟨z1, rfl, unhide HO2, unhide HG2, unhide HJ1, unhide HJ2⟩
    · skip
      have h3 : ∀ t, a ≤ t → t < m → m ≤ mid + m - 1 - t ∧ mid + m - 1 - t < b ∧ t ≤ mid + m - 1 := fun t q1 q2 => by omega
      have H3 := hide h3
      clear h3
      have he := unhide HE
      go_enter Try.func122, Try.ntmps122
      go_wp2_with fail
      go_loopw [20, 21] (fun i j wr => ∃ (p q : Nat), a ≤ p ∧ p ≤ q ∧ q ≤ m ∧ i = .int .i64 p ∧ j = .int .i64 q ∧ Hid (OwnK wr lo (some ⟨g, 0, none⟩) n c xs) ∧ Hid (w.grownBy wr (some g)) ∧ Hid (SrchR Tri.d (a) (m) (mid + m - 1) p q xs)) (fun i j _ => (intOf j).toNat - (intOf i).toNat)
      case atStart => exact ⟨a, m, by omega, by omega, by omega, rfl, rfl, HO, World.grownBy.refl _ _, ⟨fun t x y q1 q2 => by omega, fun t x y q1 q2 => by omega⟩⟩
      case round =>
        obtain ⟨p, q, hp, hpq, hq, rfl, rfl, hO, hG, hR⟩ := hrel
        by_cases hlt : p < q
        · obtain ⟨h, hh⟩ : ∃ h : Nat, h = (p + q) / 2 := ⟨_, rfl⟩
          have hh1 : p ≤ h := by omega
          have hh2 : h < q := by omega
          have HE2 : Hid (((p : Int) + (q : Int)) / 2 = (h : Int)) := by unfold Hid; omega
          obtain ⟨hu1, hu2, hu3⟩ := unhide H3 h (by omega) (by omega)
          obtain ⟨u, hu⟩ : ∃ u, u = mid + m - 1 - h := ⟨_, rfl⟩
          obtain ⟨x, hx, cx0, fx0⟩ := (unhide hO).el (j := h) (by omega)
          obtain ⟨y, hy, cy0, fy0⟩ := (unhide hO).el (j := u) (by omega)
          have hgz : g < wr.heap.size := ((unhide hO).form (by omega)).elim fun g' h9 => by obtain ⟨h8, _, h7, _⟩ := h9; injection h8 with h8; injection h8 with h8; omega
          have ax0 : ∀ s : Abv wr, s.w.cell? ⟨g, h, none⟩ = some (.slice (some ⟨x.b, 0, none⟩) 3 3) := Abv.cell hgz cx0
          have ay0 : ∀ s : Abv wr, s.w.cell? ⟨g, u, none⟩ = some (.slice (some ⟨y.b, 0, none⟩) 3 3) := Abv.cell hgz cy0
          have HC := hide ((unhide hO).cmp (unhide hy) (unhide hx))
          have HX9 := hide (cmp_negR (y.d) (x.d))
          generalize cmpI (y.d) (x.d) = cv at HC HX9
          have HY := hide (show xs[mid + m - 1 - h]? = some y by rw [← hu]; exact unhide hy)
          have l1 : (h : Int) < (n : Int) := by omega
          have l2 : (0 : Int) ≤ (h : Int) := by omega
          have l3 : (u : Int) < (n : Int) := by omega
          have l4 : (0 : Int) ≤ (u : Int) := by omega
          have HS9 : Hid (IntKind.i64.wrap ((mid : Int) + (m : Int) - 1 - (h : Int)) = (u : Int)) := by unfold Hid; rw [show (mid : Int) + (m : Int) - 1 - (h : Int) = (u : Int) by omega]; exact IntWalk.i64_in _ (by omega)
          clear cx0 fx0 cy0 fy0
          rcases hd : decide (y.d < x.d) with _ | _
          · have hX : decide (cv < 0) = false := by rw [unhide HX9, hd]
            have HR2 := hide ((unhide hR).right (unhide HS1) (unhide HS2) (unhide hx) (unhide HY) (by have := of_decide_eq_false hd; show x.d ≤ y.d; omega) (by omega) (by omega) (unhide H3) (by omega) (by omega))
            clear hd hx hy HY hu hu1 hu2 hu3 hh HX9
            have he2 := unhide HE2
            have s1 := unhide HS9
            clear HE2 HS9
            go_wp2_with fail
            refine wp_region_abv wr (by kernel_rfl) (by kernel_rfl) (Below.refl _ _) ?_
            repeat (go_big_quiet_step ((first | (go_at_call 102; exact Calls.abv (unhide HC _)))))
            refine wpQuiet_nil ?_
            intro _ hw'
            obtain ⟨sv, hw''⟩ := hw'
            subst hw''
            clear he2 s1
            go_wp2_with fail
            go_roundw
            case rel => exact ⟨h + 1, q, by omega, by omega, by omega, by go_num, rfl, (unhide hO).below sv.h (Nat.le_refl _), grown_abvR (unhide hG) sv, HR2⟩
            case measure => simp [intOf] <;> omega
          · have hX : decide (cv < 0) = true := by rw [unhide HX9, hd]
            have HR2 := hide ((unhide hR).left (unhide HS1) (unhide HS2) (unhide hx) (unhide HY) (of_decide_eq_true hd) (by omega) (by omega) (unhide H3) (by omega) (by omega))
            clear hd hx hy HY hu hu1 hu2 hu3 hh HX9
            have he2 := unhide HE2
            have s1 := unhide HS9
            clear HE2 HS9
            go_wp2_with fail
            refine wp_region_abv wr (by kernel_rfl) (by kernel_rfl) (Below.refl _ _) ?_
            repeat (go_big_quiet_step ((first | (go_at_call 102; exact Calls.abv (unhide HC _)))))
            refine wpQuiet_nil ?_
            intro _ hw'
            obtain ⟨sv, hw''⟩ := hw'
            subst hw''
            clear he2 s1
            go_wp2_with fail
            go_roundw
            case rel => exact ⟨p, h, by omega, by omega, by omega, rfl, rfl, (unhide hO).below sv.h (Nat.le_refl _), grown_abvR (unhide hG) sv, HR2⟩
            case measure => simp [intOf] <;> omega
        · obtain rfl : p = q := by omega
          obtain ⟨e, he2⟩ : ∃ e : Nat, e + p = mid + m := ⟨mid + m - p, by omega⟩
          have HT := hide (sym_step (key := Tri.d) (a := a) (m := m) (b := b) (s := p) (e := e) (mid := mid) (unhide HS1) (unhide HS2) (by omega) (by omega) (by omega) (by omega) (by have := unhide HLX; omega) (by omega)
            (fun x y q1 q2 hx hy => by
              rcases Nat.lt_or_ge (a) p with h9 | h9
              · exact (unhide hR).l (p - 1) x y (by omega) (by omega) hx (by rw [show mid + m - 1 - (p - 1) = e by omega]; exact hy)
              · exfalso; omega)
            (fun x y q1 q2 hx hy => by
              rcases Nat.lt_or_ge p (m) with h9 | h9
              · exact (unhide hR).r p x y (Nat.le_refl _) h9 hx (by rw [show mid + m - 1 - p = e - 1 by omega]; exact hy)
              · exfalso; omega))
          have hpm : p ≤ mid := by omega
          have hpm2 : p ≤ m := by omega
          have hem : m ≤ e := by omega
          have heb : e ≤ b := by omega
          have hap : a ≤ p := by omega
          have hme : mid ≤ e := by omega
          have HEe : Hid ((mid : Int) + (m : Int) - (p : Int) = (e : Int)) := by unfold Hid; omega
          have hzlen := unhide HLX
          clear hlt H3 hR
          by_cases hrt : p < m ∧ m < e
          · obtain ⟨hrt1, hrt2⟩ := hrt
            have RC := hide (rotateR lo g n c xs p m e wr (unhide hO) hrt1 hrt2 (by omega) hn)
            have he3 := unhide HEe
            go_wp2_with fail
            refine (unhide RC).mono ?_
            rintro e0 w1 ⟨rfl, hO1, hg1⟩
            have HO1 := hide hO1
            have HG1 := hide (grownBy_trans (unhide hG) hg1)
            clear hO1 hg1 RC he3
            obtain ⟨T0, T1, T2, T3, T4, T5⟩ := unhide HT
            have HT0 := hide T0
            have HT1 := hide T1
            have HT2 := hide T2
            have HT3 := hide T3
            have HT4 := hide T4
            have HT5 := hide T5
            clear T0 T1 T2 T3 T4 T5
            generalize rot p m e xs = r0 at HO1 HT0 HT1 HT2 HT3 HT4 HT5
            by_cases hr1 : a < p ∧ p < mid
            · obtain ⟨hr11, hr12⟩ := hr1
              have IC := hide (unhide IH lo g n c r0 a p mid (a : Int) (p : Int) (mid : Int) w1 (unhide HO1) rfl rfl rfl (by omega) hr11 hr12 (by omega) hn (unhide HT1) (unhide HT2))
              go_wp2_with fail
              refine (unhide IC).mono ?_
              rintro e1 w2 ⟨z1, rfl, hO2, hg2, hs2, ht2⟩
              have HO2 := hide hO2
              have HG2 := hide (grownBy_trans (unhide HG1) hg2)
              have HSa := hide hs2
              have HTa := hide ht2
              clear hO2 hg2 hs2 ht2 IC
              have HU3 : Hid (Srt Tri.d mid e z1) := (unhide HT3).keep fun i q1 q2 => (unhide HSa).out i (.inr q1)
              have HU4 : Hid (Srt Tri.d e b z1) := (unhide HT4).keep fun i q1 q2 => (unhide HSa).out i (.inr (by omega))
              by_cases hr2 : mid < e ∧ e < b
              · obtain ⟨hr21, hr22⟩ := hr2
                have IC2 := hide (fun W2 hO => unhide IH lo g n c z1 mid e b (mid : Int) (e : Int) (b : Int) W2 hO rfl rfl rfl (by omega) hr21 hr22 hbn hn (unhide HU3) (unhide HU4))
                go_wp2_with fail
                refine (unhide IC2 _ (unhide HO2)).mono ?_
                rintro e2 w3 ⟨z2, rfl, hO3, hg3, hs3, ht3⟩
                obtain ⟨J1, J2⟩ := sym_join (key := Tri.d) (by omega) (by omega) (unhide HSa) hs3 (unhide HTa) ht3 (unhide HT5)
                have HO3 := hide hO3
                have HG3 := hide (grownBy_trans (unhide HG2) hg3)
                have HJ1 := hide ((unhide HT0).trans J1)
                have HJ2 := hide J2
                clear hO3 hg3 hs3 ht3 J1 J2 IC2
                go_wp2_with fail
                go_end0
                exact ⟨z2, rfl, unhide HO3, unhide HG3, unhide HJ1, unhide HJ2⟩
              · have ht3 : Srt Tri.d mid b z1 := by
                  rcases (show e = mid ∨ e = b by omega) with h9 | h9
                  · rw [← h9]; exact unhide HU4
                  · rw [← h9]; exact unhide HU3
                obtain ⟨J1, J2⟩ := sym_join (key := Tri.d) (by omega) (by omega) (unhide HSa) (SR.refl mid b z1) (unhide HTa) ht3 (unhide HT5)
                have HJ1 := hide ((unhide HT0).trans J1)
                have HJ2 := hide J2
                clear J1 J2 ht3
                rcases (show ¬ mid < e ∨ (mid < e ∧ ¬ e < b) by omega) with hm1 | ⟨hm1, hm2⟩
                all_goals
                  go_wp2_with fail
                  go_end0
                  exact ⟨z1, rfl, unhide HO2, unhide HG2, unhide HJ1, unhide HJ2⟩
            · have HSa := hide (SR.refl (key := Tri.d) a mid r0)
              have HTa : Hid (Srt Tri.d a mid r0) := by
                rcases (show p = a ∨ p = mid by omega) with h9 | h9
                · subst h9; exact unhide HT2
                · subst h9; exact unhide HT1
              have HO2 := hide (unhide HO1)
              have HG2 := hide (unhide HG1)
              obtain ⟨z1, hz1⟩ : ∃ z, z = r0 := ⟨_, rfl⟩
              have HO2 : Hid (OwnK w1 lo (some ⟨g, 0, none⟩) n c z1) := by rw [hz1]; exact unhide HO2
              have HSa : Hid (SR Tri.d a mid r0 z1) := by rw [hz1]; exact unhide HSa
              have HTa : Hid (Srt Tri.d a mid z1) := by rw [hz1]; exact unhide HTa
              clear hz1
              rcases (show ¬ a < p ∨ (a < p ∧ ¬ p < mid) by omega) with hn1 | ⟨hn1, hn2⟩
              all_goals
                have HU3 : Hid (Srt Tri.d mid e z1) := (unhide HT3).keep fun i q1 q2 => (unhide HSa).out i (.inr q1)
                have HU4 : Hid (Srt Tri.d e b z1) := (unhide HT4).keep fun i q1 q2 => (unhide HSa).out i (.inr (by omega))
                by_cases hr2 : mid < e ∧ e < b
                · obtain ⟨hr21, hr22⟩ := hr2
                  have IC2 := hide (fun W2 hO => unhide IH lo g n c z1 mid e b (mid : Int) (e : Int) (b : Int) W2 hO rfl rfl rfl (by omega) hr21 hr22 hbn hn (unhide HU3) (unhide HU4))
                  go_wp2_with fail
                  refine (unhide IC2 _ (unhide HO2)).mono ?_
                  rintro e2 w3 ⟨z2, rfl, hO3, hg3, hs3, ht3⟩
                  obtain ⟨J1, J2⟩ := sym_join (key := Tri.d) (by omega) (by omega) (unhide HSa) hs3 (unhide HTa) ht3 (unhide HT5)
                  have HO3 := hide hO3
                  have HG3 := hide (grownBy_trans (unhide HG2) hg3)
                  have HJ1 := hide ((unhide HT0).trans J1)
                  have HJ2 := hide J2
                  clear hO3 hg3 hs3 ht3 J1 J2 IC2
                  go_wp2_with fail
                  go_end0
                  exact ⟨z2, rfl, unhide HO3, unhide HG3, unhide HJ1, unhide HJ2⟩
                · have ht3 : Srt Tri.d mid b z1 := by
                    rcases (show e = mid ∨ e = b by omega) with h9 | h9
                    · rw [← h9]; exact unhide HU4
                    · rw [← h9]; exact unhide HU3
                  obtain ⟨J1, J2⟩ := sym_join (key := Tri.d) (by omega) (by omega) (unhide HSa) (SR.refl mid b z1) (unhide HTa) ht3 (unhide HT5)
                  have HJ1 := hide ((unhide HT0).trans J1)
                  have HJ2 := hide J2
                  clear J1 J2 ht3
                  rcases (show ¬ mid < e ∨ (mid < e ∧ ¬ e < b) by omega) with hm1 | ⟨hm1, hm2⟩
                  all_goals
                    go_wp2_with fail
                    go_end0
                    exact ⟨z1, rfl, unhide HO2, unhide HG2, unhide HJ1, unhide HJ2⟩
          · have HO1 : Hid (OwnK wr lo (some ⟨g, 0, none⟩) n c (rot p m e xs)) := by
              rcases (show p = m ∨ m = e by omega) with h9 | h9
              · subst h9; unfold Hid; rw [rot_none_left (by omega) (by omega)]; exact unhide hO
              · subst h9; unfold Hid; rw [rot_none_right (by omega) (by omega)]; exact unhide hO
            have he3 := unhide HEe
            rcases (show ¬ p < m ∨ (p < m ∧ ¬ m < e) by omega) with hn3 | ⟨hn3, hn4⟩
            all_goals
              obtain ⟨T0, T1, T2, T3, T4, T5⟩ := unhide HT
              have HT0 := hide T0
              have HT1 := hide T1
              have HT2 := hide T2
              have HT3 := hide T3
              have HT4 := hide T4
              have HT5 := hide T5
              clear T0 T1 T2 T3 T4 T5
              generalize rot p m e xs = r0 at HO1 HT0 HT1 HT2 HT3 HT4 HT5
              by_cases hr1 : a < p ∧ p < mid
              · obtain ⟨hr11, hr12⟩ := hr1
                have IC := hide (unhide IH lo g n c r0 a p mid (a : Int) (p : Int) (mid : Int) wr (unhide HO1) rfl rfl rfl (by omega) hr11 hr12 (by omega) hn (unhide HT1) (unhide HT2))
                go_wp2_with fail
                refine (unhide IC).mono ?_
                rintro e1 w2 ⟨z1, rfl, hO2, hg2, hs2, ht2⟩
                have HO2 := hide hO2
                have HG2 := hide (grownBy_trans (unhide hG) hg2)
                have HSa := hide hs2
                have HTa := hide ht2
                clear hO2 hg2 hs2 ht2 IC
                have HU3 : Hid (Srt Tri.d mid e z1) := (unhide HT3).keep fun i q1 q2 => (unhide HSa).out i (.inr q1)
                have HU4 : Hid (Srt Tri.d e b z1) := (unhide HT4).keep fun i q1 q2 => (unhide HSa).out i (.inr (by omega))
                by_cases hr2 : mid < e ∧ e < b
                · obtain ⟨hr21, hr22⟩ := hr2
                  have IC2 := hide (fun W2 hO => unhide IH lo g n c z1 mid e b (mid : Int) (e : Int) (b : Int) W2 hO rfl rfl rfl (by omega) hr21 hr22 hbn hn (unhide HU3) (unhide HU4))
                  go_wp2_with fail
                  refine (unhide IC2 _ (unhide HO2)).mono ?_
                  rintro e2 w3 ⟨z2, rfl, hO3, hg3, hs3, ht3⟩
                  obtain ⟨J1, J2⟩ := sym_join (key := Tri.d) (by omega) (by omega) (unhide HSa) hs3 (unhide HTa) ht3 (unhide HT5)
                  have HO3 := hide hO3
                  have HG3 := hide (grownBy_trans (unhide HG2) hg3)
                  have HJ1 := hide ((unhide HT0).trans J1)
                  have HJ2 := hide J2
                  clear hO3 hg3 hs3 ht3 J1 J2 IC2
                  go_wp2_with fail
                  go_end0
                  exact ⟨z2, rfl, unhide HO3, unhide HG3, unhide HJ1, unhide HJ2⟩
                · have ht3 : Srt Tri.d mid b z1 := by
                    rcases (show e = mid ∨ e = b by omega) with h9 | h9
                    · rw [← h9]; exact unhide HU4
                    · rw [← h9]; exact unhide HU3
                  obtain ⟨J1, J2⟩ := sym_join (key := Tri.d) (by omega) (by omega) (unhide HSa) (SR.refl mid b z1) (unhide HTa) ht3 (unhide HT5)
                  have HJ1 := hide ((unhide HT0).trans J1)
                  have HJ2 := hide J2
                  clear J1 J2 ht3
                  rcases (show ¬ mid < e ∨ (mid < e ∧ ¬ e < b) by omega) with hm1 | ⟨hm1, hm2⟩
                  all_goals
                    go_wp2_with fail
                    go_end0
                    exact ⟨z1, rfl, unhide HO2, unhide HG2, unhide HJ1, unhide HJ2⟩
              · have HSa := hide (SR.refl (key := Tri.d) a mid r0)
                have HTa : Hid (Srt Tri.d a mid r0) := by
                  rcases (show p = a ∨ p = mid by omega) with h9 | h9
                  · subst h9; exact unhide HT2
                  · subst h9; exact unhide HT1
                have HO2 := hide (unhide HO1)
                have HG2 := hide (unhide hG)
                obtain ⟨z1, hz1⟩ : ∃ z, z = r0 := ⟨_, rfl⟩
                have HO2 : Hid (OwnK wr lo (some ⟨g, 0, none⟩) n c z1) := by rw [hz1]; exact unhide HO2
                have HSa : Hid (SR Tri.d a mid r0 z1) := by rw [hz1]; exact unhide HSa
                have HTa : Hid (Srt Tri.d a mid z1) := by rw [hz1]; exact unhide HTa
                clear hz1
                rcases (show ¬ a < p ∨ (a < p ∧ ¬ p < mid) by omega) with hn1 | ⟨hn1, hn2⟩
                all_goals
                  have HU3 : Hid (Srt Tri.d mid e z1) := (unhide HT3).keep fun i q1 q2 => (unhide HSa).out i (.inr q1)
                  have HU4 : Hid (Srt Tri.d e b z1) := (unhide HT4).keep fun i q1 q2 => (unhide HSa).out i (.inr (by omega))
                  by_cases hr2 : mid < e ∧ e < b
                  · obtain ⟨hr21, hr22⟩ := hr2
                    have IC2 := hide (fun W2 hO => unhide IH lo g n c z1 mid e b (mid : Int) (e : Int) (b : Int) W2 hO rfl rfl rfl (by omega) hr21 hr22 hbn hn (unhide HU3) (unhide HU4))
                    go_wp2_with fail
                    refine (unhide IC2 _ (unhide HO2)).mono ?_
                    rintro e2 w3 ⟨z2, rfl, hO3, hg3, hs3, ht3⟩
                    obtain ⟨J1, J2⟩ := sym_join (key := Tri.d) (by omega) (by omega) (unhide HSa) hs3 (unhide HTa) ht3 (unhide HT5)
                    have HO3 := hide hO3
                    have HG3 := hide (grownBy_trans (unhide HG2) hg3)
                    have HJ1 := hide ((unhide HT0).trans J1)
                    have HJ2 := hide J2
                    clear hO3 hg3 hs3 ht3 J1 J2 IC2
                    go_wp2_with fail
                    go_end0
                    exact ⟨z2, rfl, unhide HO3, unhide HG3, unhide HJ1, unhide HJ2⟩
                  · have ht3 : Srt Tri.d mid b z1 := by
                      rcases (show e = mid ∨ e = b by omega) with h9 | h9
                      · rw [← h9]; exact unhide HU4
                      · rw [← h9]; exact unhide HU3
                    obtain ⟨J1, J2⟩ := sym_join (key := Tri.d) (by omega) (by omega) (unhide HSa) (SR.refl mid b z1) (unhide HTa) ht3 (unhide HT5)
                    have HJ1 := hide ((unhide HT0).trans J1)
                    have HJ2 := hide J2
                    clear J1 J2 ht3
                    rcases (show ¬ mid < e ∨ (mid < e ∧ ¬ e < b) by omega) with hm1 | ⟨hm1, hm2⟩
                    all_goals
                      go_wp2_with fail
                      go_end0
                      exact ⟨z1, rfl, unhide HO2, unhide HG2, unhide HJ1, unhide HJ2⟩
end Go.Proofs.Ytihkocplgciifaa
