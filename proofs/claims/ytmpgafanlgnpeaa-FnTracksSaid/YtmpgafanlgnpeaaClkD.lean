/- Chapter 5, the walks: where the offset steps: the program's and the reference's. (By gen_clkD.py.) -/
import Derived.Test.YtmpgafanlgnpeaaProg
import Derived.Test.YtmpgafanlgnpeaaClkA
import Derived.Test.YtmpgafanlgnpeaaInts
import Derived.Deep.DeepCutAuto
namespace Go.Proofs.Ytmpgafanlgnpeaa
open Go.RowKit

theorem cellAt {w : World} {g : Nat} (v : Value) (t : TypeId) (h : g = w.heap.size) : (w.alloc (.cells #[v] t)).cell? ⟨g, 0, none⟩ = some v := by subst h; exact cellNew w v t
theorem World.cell?_drew (w : World) (a : Addr) : w.drew.cell? a = w.cell? a := rfl
/-- the offsets of two marks differ by more than a jump -/
def stpB (x y x' y' j : Int) : Bool := decide (j < max (y - x - (y' - x')) (-(y - x - (y' - x'))))
/-- the places below k where the offset steps -/
def stepsI (xs : List (Int × Int)) (j : Int) : Nat → List Int
  | 0 => []
  | k + 1 => stepsI xs j k ++ (if (decide (1 ≤ k) && stpB (sh xs k) (tr xs k) (sh xs (k - 1)) (tr xs (k - 1)) j) = true then [(k : Int)] else [])
theorem steps_one (xs : List (Int × Int)) (j : Int) : stepsI xs j 1 = [] := by simp [stepsI]
theorem steps_step (xs : List (Int × Int)) (j : Int) (k : Nat) {x y x' y' : Int} (hk : 1 ≤ k) (h : xs[k]? = some (x, y)) (h' : xs[k - 1]? = some (x', y')) : stepsI xs j (k + 1) = stepsI xs j k ++ (if stpB x y x' y' j = true then [(k : Int)] else []) := by
  rw [stepsI, sh_of h, tr_of h, sh_of h', tr_of h']
  simp [hk]
theorem stepsI_len (xs : List (Int × Int)) (j : Int) (k : Nat) : (stepsI xs j k).length ≤ k := by
  induction k with
  | zero => simp [stepsI]
  | succ k ih =>
    rw [stepsI, List.length_append]
    split <;> simp <;> omega
/-- the steps of a track, whether there may be any -/
def stepR (xs : List (Int × Int)) (j : Int) : List Int × Bool := if (trkB xs && inB j 0 1000000) = true then (stepsI xs j xs.length, true) else ([], false)
theorem steps_len (xs : List (Int × Int)) (j : Int) : (stepR xs j).1.length ≤ 2097152 := by
  unfold stepR
  split
  · rename_i h
    rw [Bool.and_eq_true] at h
    have h1 := (trk_of h.1).2.2
    have h2 := stepsI_len xs j xs.length
    simp only
    omega
  · simp

set_option maxHeartbeats 4000000 in
set_option maxRecDepth 100000 in
theorem implStepAt_any (A : Option Addr) (n c : Nat) (xs : List (Int × Int)) (j : Int) (w : World) (hr : RP w w.heap.size A n xs) (hn : n ≤ 2097152) :
    Calls Try.prog 41 #[.slice A n c, .int .i64 j] w (RetIB w (stepR xs j).1 (stepR xs j).2) := by
  have HG := hide (implIsTrack_any A n c xs w hr (by omega))
  have HL := hide hr.len
  have HR := hide hr
  clear hr
  rcases h1 : trkB xs with _ | _
  · have HRR : Hid (stepR xs j = ([], false)) := by unfold Hid stepR; rw [h1]; rfl
    go_enter Try.func41, Try.ntmps41
    go_wp2_with fail
    rw [h1] at HG
    refine (unhide HG).mono ?_
    rintro e w1 ⟨rfl, hb⟩
    have HB1 := hide hb
    clear hb
    go_wp2_with fail
    go_ret2
    rw [unhide HRR]
    exact ⟨none, 0, 0, rfl, OwnI.nil _ _, unhide HB1⟩
  · obtain ⟨ht, l2, l10⟩ := trk_of h1
    rw [unhide HL] at l2 l10
    rcases h2 : inB j 0 1000000 with _ | _
    · have HRR : Hid (stepR xs j = ([], false)) := by unfold Hid stepR; rw [h1, h2]; rfl
      clear ht
      go_enter Try.func41, Try.ntmps41
      go_wp2_with fail
      rw [h1] at HG
      refine (unhide HG).mono ?_
      rintro e w1 ⟨rfl, hb⟩
      have HB1 := hide hb
      clear hb
      go_wp2_with fail
      refine (in_any j _ _ _).mono ?_
      rintro e w9 ⟨rfl, rfl⟩
      rw [h2]
      go_wp2_with fail
      go_ret2
      rw [unhide HRR]
      exact ⟨none, 0, 0, rfl, OwnI.nil _ _, unhide HB1⟩
    · obtain ⟨j0, j1⟩ := inB_iff.1 h2
      have HRR : Hid (stepR xs j = (stepsI xs j n, true)) := by unfold Hid stepR; rw [h1, h2, unhide HL]; rfl
      have HT := hide ht
      clear ht
      go_enter Try.func41, Try.ntmps41
      go_wp2_with fail
      rw [h1] at HG
      refine (unhide HG).mono ?_
      rintro e w1 ⟨rfl, hb⟩
      have HB1 := hide hb
      clear hb
      go_wp2_with fail
      refine (in_any j _ _ _).mono ?_
      rintro e w9 ⟨rfl, rfl⟩
      rw [h2]
      go_wp2_with fail
      go_loopw [6, 7] (fun v i wr => ∃ (k m : Nat) (A' : Option Addr) (c' : Nat), 1 ≤ k ∧ k ≤ n ∧ m ≤ k ∧ i = .int .i64 k ∧ v = .slice A' m c' ∧ Hid (OwnI wr w.heap.size A' m c' (stepsI xs j k)) ∧ Hid (Below w.heap.size w wr)) (fun _ i _ => n - (intOf i).toNat)
      case atStart => exact ⟨1, 0, _, _, by omega, by omega, by omega, rfl, rfl, by rw [steps_one]; exact OwnI.empty _ (unhide HB1).size, (unhide HB1).alloc (unhide HB1).size _⟩
      case round =>
        obtain ⟨k, m, A', c', hk0, hk, hmk, rfl, rfl, hO, hB⟩ := hrel
        by_cases hlt : k < n
        · obtain ⟨ad, x, y, rfl, hbx, hx, hc0, hc1⟩ := ((unhide HR).below (unhide hB)).get hlt
          obtain ⟨ad', x', y', had, _, hx', hd0, hd1⟩ := ((unhide HR).below (unhide hB)).get (show k - 1 < n by omega)
          obtain rfl := Option.some.inj had
          have n1 := (unhide HT).sh0 k (by have := unhide HL; omega)
          have n2 := (unhide HT).tr0 k (by have := unhide HL; omega)
          have n3 := (unhide HT).sh0 (k - 1) (by have := unhide HL; omega)
          have n4 := (unhide HT).tr0 (k - 1) (by have := unhide HL; omega)
          rw [sh_of (unhide hx)] at n1
          rw [tr_of (unhide hx)] at n2
          rw [sh_of (unhide hx')] at n3
          rw [tr_of (unhide hx')] at n4
          obtain ⟨n10, n11⟩ := n1
          obtain ⟨n20, n21⟩ := n2
          obtain ⟨n30, n31⟩ := n3
          obtain ⟨n40, n41⟩ := n4
          have HH := hide (steps_step xs j k hk0 (unhide hx) (unhide hx'))
          clear hx hx' had
          have l3 : (k : Int) - 1 < (n : Int) := by omega
          have l4 : (1 : Int) ≤ (k : Int) := by omega
          have l5 : (0 : Int) ≤ (k : Int) - 1 := by omega
          have l6 : ((k : Int) - 1).toNat = k - 1 := by omega
          have l7 : (k : Int) < (n : Int) := by omega
          have l8 : (k : Int) ≤ (n : Int) := by omega
          have l9 : (0 : Int) ≤ (k : Int) := by omega
          have s1 : IntKind.i64.wrap ((k : Int) - 1) = (k : Int) - 1 := IntWalk.i64_in _ (by omega)
          have HA := hide (fun W => abs_any (y - x - (y' - x')) W (by omega) (by omega))
          generalize hM : max (y - x - (y' - x')) (-(y - x - (y' - x'))) = M at HA
          cases ht : decide (j < M)
          · have HT2 : Hid (stepsI xs j (k + 1) = stepsI xs j k) := by unfold Hid; rw [unhide HH]; unfold stpB; rw [hM, ht]; simp
            clear HH hM
            go_wp2_with fail
            go_region_held3 (fun w' => w'.cell? (ad.add (k * 2)) = some (.int .i64 x) ∧ w'.cell? ⟨(ad.add (k * 2)).block, (ad.add (k * 2)).off + 1, none⟩ = some (.int .i64 y) ∧ w'.cell? (ad.add ((k - 1) * 2)) = some (.int .i64 x') ∧ w'.cell? ⟨(ad.add ((k - 1) * 2)).block, (ad.add ((k - 1) * 2)).off + 1, none⟩ = some (.int .i64 y'))
              (go_keep) (fail)
            all_goals
              go_wp2_with fail
              refine (unhide HA _).mono ?_
              rintro e w5 ⟨rfl, rfl⟩
              go_wp2_with fail
              go_roundw
              case rel => exact ⟨k + 1, m, A', c', by omega, by omega, by omega, by go_num, rfl, by rw [unhide HT2]; exact OwnI.below (unhide hO) (B := wr.heap.size) (by repeat (first | exact Below.refl _ _ | refine below_drewN ?_ _ | refine Below.drew ?_ | refine Below.alloc ?_ (by simp <;> omega) _)) (Nat.le_refl _), below_next (unhide hB) (by repeat (first | exact Below.refl _ _ | refine below_drewN ?_ _ | refine Below.drew ?_ | refine Below.alloc ?_ (by simp <;> omega) _))⟩
              case measure => simp [intOf]; omega
          · have HT2 : Hid (stepsI xs j (k + 1) = stepsI xs j k ++ [(k : Int)]) := by unfold Hid; rw [unhide HH]; unfold stpB; rw [hM, ht]; simp
            clear HH hM
            go_wp2_with fail
            go_region_held3 (fun w' => w'.cell? (ad.add (k * 2)) = some (.int .i64 x) ∧ w'.cell? ⟨(ad.add (k * 2)).block, (ad.add (k * 2)).off + 1, none⟩ = some (.int .i64 y) ∧ w'.cell? (ad.add ((k - 1) * 2)) = some (.int .i64 x') ∧ w'.cell? ⟨(ad.add ((k - 1) * 2)).block, (ad.add ((k - 1) * 2)).off + 1, none⟩ = some (.int .i64 y'))
              (go_keep) (fail)
            all_goals
              go_wp2_with fail
              refine (unhide HA _).mono ?_
              rintro e w5 ⟨rfl, rfl⟩
              go_wp2_with
                (at_builtin; refine append_int _ rfl _ _ rfl w A' m c' (stepsI xs j k) rfl (OwnI.below (unhide hO) (B := wr.heap.size) (by repeat (first | exact Below.refl _ _ | refine below_drewN ?_ _ | refine Below.drew ?_ | refine Below.alloc ?_ (by simp <;> omega) _)) (Nat.le_refl _)) (below_next (unhide hB) (by repeat (first | exact Below.refl _ _ | refine below_drewN ?_ _ | refine Below.drew ?_ | refine Below.alloc ?_ (by simp <;> omega) _))) _ (k : Int) rfl (by first | exact cellNew _ _ _ | exact cellAt _ _ (by simp) | (rw [World.cell?_drew]; exact cellAt _ _ (by simp))) (by omega) ?_; intro A2 c2 w2 hO2 hB2)
              rw [← unhide HT2] at hO2
              have HO2 := hide hO2
              have HB2 := hide hB2
              clear hO2 hB2 hO hB HT2
              go_wp2_with fail
              go_roundw
              case rel => exact ⟨k + 1, m + 1, A2, c2, by omega, by omega, by omega, by go_num, rfl, HO2, HB2⟩
              case measure => simp [intOf]; omega
        · obtain rfl : k = n := by omega
          go_wp2_with fail
          go_ret2
          rw [unhide HRR]
          exact ⟨A', m, c', rfl, unhide hO, unhide hB⟩

set_option maxHeartbeats 4000000 in
set_option maxRecDepth 100000 in
theorem specStepAt_any (A : Option Addr) (n c : Nat) (xs : List (Int × Int)) (j : Int) (w : World) (hr : RP w w.heap.size A n xs) (hn : n ≤ 2097152) :
    Calls Try.prog 40 #[.slice A n c, .int .i64 j] w (RetIB w (stepR xs j).1 (stepR xs j).2) := by
  have HG := hide (l5Good_any A n c xs (w.alloc (.cells #[] 3)) ((hr.alloc (Nat.le_refl _) _).more (by simp)) (by omega))
  have HL := hide hr.len
  have HR := hide hr
  clear hr
  rcases h1 : trkB xs with _ | _
  · have HRR : Hid (stepR xs j = ([], false)) := by unfold Hid stepR; rw [h1]; rfl
    go_enter Try.func40, Try.ntmps40
    go_wp2_with fail
    rw [h1] at HG
    refine (unhide HG).mono ?_
    rintro e w1 ⟨rfl, hb⟩
    have HB1 : Hid (Below w.heap.size w w1) := ((Below.refl _ w).alloc (Nat.le_refl _) _).trans (hb.mono (by simp))
    have HO1 := hide ((OwnI.empty w (Nat.le_refl _)).below hb (Nat.le_refl _))
    clear hb
    go_wp2_with fail
    go_ret2
    rw [unhide HRR]
    exact ⟨_, _, _, rfl, unhide HO1, unhide HB1⟩
  · obtain ⟨ht, l2, l10⟩ := trk_of h1
    rw [unhide HL] at l2 l10
    rcases h2 : inB j 0 1000000 with _ | _
    · have HRR : Hid (stepR xs j = ([], false)) := by unfold Hid stepR; rw [h1, h2]; rfl
      clear ht
      go_enter Try.func40, Try.ntmps40
      go_wp2_with fail
      rw [h1] at HG
      refine (unhide HG).mono ?_
      rintro e w1 ⟨rfl, hb⟩
      have HB1 : Hid (Below w.heap.size w w1) := ((Below.refl _ w).alloc (Nat.le_refl _) _).trans (hb.mono (by simp))
      have HO1 := hide ((OwnI.empty w (Nat.le_refl _)).below hb (Nat.le_refl _))
      clear hb
      go_wp2_with fail
      refine (l1In_any j _ _ _).mono ?_
      rintro e w9 ⟨rfl, rfl⟩
      rw [h2]
      go_wp2_with fail
      go_ret2
      rw [unhide HRR]
      exact ⟨_, _, _, rfl, unhide HO1, unhide HB1⟩
    · obtain ⟨j0, j1⟩ := inB_iff.1 h2
      have HRR : Hid (stepR xs j = (stepsI xs j n, true)) := by unfold Hid stepR; rw [h1, h2, unhide HL]; rfl
      have HT := hide ht
      clear ht
      go_enter Try.func40, Try.ntmps40
      go_wp2_with fail
      rw [h1] at HG
      refine (unhide HG).mono ?_
      rintro e w1 ⟨rfl, hb⟩
      have HB1 : Hid (Below w.heap.size w w1) := ((Below.refl _ w).alloc (Nat.le_refl _) _).trans (hb.mono (by simp))
      have HO1 := hide ((OwnI.empty w (Nat.le_refl _)).below hb (Nat.le_refl _))
      clear hb
      go_wp2_with fail
      refine (l1In_any j _ _ _).mono ?_
      rintro e w9 ⟨rfl, rfl⟩
      rw [h2]
      go_wp2_with fail
      go_loopw [6, 7] (fun v i wr => ∃ (k m : Nat) (A' : Option Addr) (c' : Nat), 1 ≤ k ∧ k ≤ n ∧ m ≤ k ∧ i = .int .i64 k ∧ v = .slice A' m c' ∧ Hid (OwnI wr w.heap.size A' m c' (stepsI xs j k)) ∧ Hid (Below w.heap.size w wr)) (fun _ i _ => n - (intOf i).toNat)
      case atStart => exact ⟨1, 0, _, _, by omega, by omega, by omega, rfl, rfl, by rw [steps_one]; exact HO1, HB1⟩
      case round =>
        obtain ⟨k, m, A', c', hk0, hk, hmk, rfl, rfl, hO, hB⟩ := hrel
        by_cases hlt : k < n
        · obtain ⟨ad, x, y, rfl, hbx, hx, hc0, hc1⟩ := ((unhide HR).below (unhide hB)).get hlt
          obtain ⟨ad', x', y', had, _, hx', hd0, hd1⟩ := ((unhide HR).below (unhide hB)).get (show k - 1 < n by omega)
          obtain rfl := Option.some.inj had
          have n1 := (unhide HT).sh0 k (by have := unhide HL; omega)
          have n2 := (unhide HT).tr0 k (by have := unhide HL; omega)
          have n3 := (unhide HT).sh0 (k - 1) (by have := unhide HL; omega)
          have n4 := (unhide HT).tr0 (k - 1) (by have := unhide HL; omega)
          rw [sh_of (unhide hx)] at n1
          rw [tr_of (unhide hx)] at n2
          rw [sh_of (unhide hx')] at n3
          rw [tr_of (unhide hx')] at n4
          obtain ⟨n10, n11⟩ := n1
          obtain ⟨n20, n21⟩ := n2
          obtain ⟨n30, n31⟩ := n3
          obtain ⟨n40, n41⟩ := n4
          have HH := hide (steps_step xs j k hk0 (unhide hx) (unhide hx'))
          clear hx hx' had
          have l3 : (k : Int) - 1 < (n : Int) := by omega
          have l4 : (1 : Int) ≤ (k : Int) := by omega
          have l5 : (0 : Int) ≤ (k : Int) - 1 := by omega
          have l6 : ((k : Int) - 1).toNat = k - 1 := by omega
          have l7 : (k : Int) < (n : Int) := by omega
          have l8 : (k : Int) ≤ (n : Int) := by omega
          have l9 : (0 : Int) ≤ (k : Int) := by omega
          have s1 : IntKind.i64.wrap ((k : Int) - 1) = (k : Int) - 1 := IntWalk.i64_in _ (by omega)
          have s2 : IntKind.i64.wrap (y - x) = y - x := IntWalk.i64_in _ (by omega)
          have s3 : IntKind.i64.wrap (y - x - y') = y - x - y' := IntWalk.i64_in _ (by omega)
          have s4 : IntKind.i64.wrap (y - x - y' + x') = y - x - y' + x' := IntWalk.i64_in _ (by omega)
          have hM : Hid (stpB x y x' y' j = (decide (j < y - x - y' + x') || decide (j < -(y - x - y' + x')))) := by
            unfold Hid stpB
            rw [Bool.eq_iff_iff, decide_eq_true_eq, Bool.or_eq_true, decide_eq_true_eq, decide_eq_true_eq]
            omega
          have nb : -9000000 ≤ y - x - y' + x' ∧ y - x - y' + x' ≤ 9000000 := by omega
          obtain ⟨nb0, nb1⟩ := nb
          go_wp2
          go_quiet (fail)
          clear s1 s2 s3 s4
          generalize y - x - y' + x' = N at hM nb0 nb1 ⊢
          rcases t1 : decide (j < N) with _ | _
          · rcases t2 : decide (j < -N) with _ | _
            · have HT2 : Hid (stepsI xs j (k + 1) = stepsI xs j k) := by unfold Hid; rw [unhide HH, unhide hM, t1, t2]; simp
              clear HH hM
              go_wp2_with fail
              go_roundw
              case rel => exact ⟨k + 1, m, A', c', by omega, by omega, by omega, by go_num, rfl, by rw [unhide HT2]; exact OwnI.below (unhide hO) (B := wr.heap.size) (by repeat (first | exact Below.refl _ _ | refine below_drewN ?_ _ | refine Below.drew ?_ | refine Below.alloc ?_ (by simp <;> omega) _)) (Nat.le_refl _), below_next (unhide hB) (by repeat (first | exact Below.refl _ _ | refine below_drewN ?_ _ | refine Below.drew ?_ | refine Below.alloc ?_ (by simp <;> omega) _))⟩
              case measure => simp [intOf]; omega
            · have HT2 : Hid (stepsI xs j (k + 1) = stepsI xs j k ++ [(k : Int)]) := by unfold Hid; rw [unhide HH, unhide hM, t1, t2]; simp
              clear HH hM
              go_wp2_with
                (at_builtin; refine append_int _ rfl _ _ rfl w A' m c' (stepsI xs j k) rfl (OwnI.below (unhide hO) (B := wr.heap.size) (by repeat (first | exact Below.refl _ _ | refine below_drewN ?_ _ | refine Below.drew ?_ | refine Below.alloc ?_ (by simp <;> omega) _)) (Nat.le_refl _)) (below_next (unhide hB) (by repeat (first | exact Below.refl _ _ | refine below_drewN ?_ _ | refine Below.drew ?_ | refine Below.alloc ?_ (by simp <;> omega) _))) _ (k : Int) rfl (by first | exact cellNew _ _ _ | exact cellAt _ _ (by simp) | (rw [World.cell?_drew]; exact cellAt _ _ (by simp))) (by omega) ?_; intro A2 c2 w2 hO2 hB2)
              rw [← unhide HT2] at hO2
              have HO2 := hide hO2
              have HB2 := hide hB2
              clear hO2 hB2 hO hB HT2
              go_wp2_with fail
              go_roundw
              case rel => exact ⟨k + 1, m + 1, A2, c2, by omega, by omega, by omega, by go_num, rfl, HO2, HB2⟩
              case measure => simp [intOf]; omega
          · have HT2 : Hid (stepsI xs j (k + 1) = stepsI xs j k ++ [(k : Int)]) := by unfold Hid; rw [unhide HH, unhide hM, t1]; simp
            clear HH hM
            go_wp2_with
              (at_builtin; refine append_int _ rfl _ _ rfl w A' m c' (stepsI xs j k) rfl (OwnI.below (unhide hO) (B := wr.heap.size) (by repeat (first | exact Below.refl _ _ | refine below_drewN ?_ _ | refine Below.drew ?_ | refine Below.alloc ?_ (by simp <;> omega) _)) (Nat.le_refl _)) (below_next (unhide hB) (by repeat (first | exact Below.refl _ _ | refine below_drewN ?_ _ | refine Below.drew ?_ | refine Below.alloc ?_ (by simp <;> omega) _))) _ (k : Int) rfl (by first | exact cellNew _ _ _ | exact cellAt _ _ (by simp) | (rw [World.cell?_drew]; exact cellAt _ _ (by simp))) (by omega) ?_; intro A2 c2 w2 hO2 hB2)
            rw [← unhide HT2] at hO2
            have HO2 := hide hO2
            have HB2 := hide hB2
            clear hO2 hB2 hO hB HT2
            go_wp2_with fail
            go_roundw
            case rel => exact ⟨k + 1, m + 1, A2, c2, by omega, by omega, by omega, by go_num, rfl, HO2, HB2⟩
            case measure => simp [intOf]; omega
        · obtain rfl : k = n := by omega
          go_wp2_with fail
          go_ret2
          rw [unhide HRR]
          exact ⟨A', m, c', rfl, unhide hO, unhide hB⟩

end Go.Proofs.Ytmpgafanlgnpeaa
