/- Chapter 2, the walks: where a trace crosses: the program's and the reference's. -/
import Derived.Test.YtdpmpdhhjmbbcaaProg
import Derived.Test.YtdpmpdhhjmbbcaaTraceB
namespace Go.Proofs.Ytdpmpdhhjmbbcaa
open Go.RowKit

/-- the two stand on two sides -/
def crB (a x : Int) : Bool := decide (0 ≤ x) != decide (0 ≤ a)
/-- the crossings at the places below k -/
def crossI (sa : Int) (xs : List Int) : Nat → List Int
  | 0 => []
  | k + 1 => crossI sa xs k ++ (if (decide (1 ≤ k) && crB (xs.getD (k - 1) 0) (xs.getD k 0)) = true then [sa + (k : Int)] else [])
theorem cross_one (sa : Int) (xs : List Int) : crossI sa xs 1 = [] := by simp [crossI]
theorem cross_step (sa : Int) (xs : List Int) (k : Nat) (a x : Int) (hk : 1 ≤ k) (ha : xs[k - 1]? = some a) (hx : xs[k]? = some x) : crossI sa xs (k + 1) = crossI sa xs k ++ (if crB a x = true then [sa + (k : Int)] else []) := by
  rw [crossI, getD_of ha, getD_of hx]
  simp [hk]
theorem crossI_len (sa : Int) (xs : List Int) (k : Nat) : (crossI sa xs k).length ≤ k := by
  induction k with
  | zero => simp [crossI]
  | succ k ih =>
    rw [crossI, List.length_append]
    split <;> simp <;> omega
theorem cross_len (st sa : Int) (xs : List Int) : (if goodB st sa xs then crossI sa xs xs.length else []).length ≤ 2097152 := by
  split
  · rename_i h
    have h1 := smpB_len (goodB_parts h).2.2.1
    have h2 := crossI_len sa xs xs.length
    omega
  · simp

set_option maxHeartbeats 4000000 in
set_option maxRecDepth 100000 in
theorem implCross_any (st sa : Int) (A : Option Addr) (n c : Nat) (xs : List Int) (w : World) (hr : RI w w.heap.size A n xs) (hn : n ≤ 1048576) :
    Calls Try.prog 32 #[.agg #[.int .i64 st, .int .i64 sa, .slice A n c]] w (RetIB w (if goodB st sa xs then crossI sa xs xs.length else []) (goodB st sa xs)) := by
  have HG := hide (implIsTrace_any st sa A n c xs (w.alloc (.cells #[.int .i64 st, .int .i64 sa, .slice A n c] 27)) ((hr.alloc (Nat.le_refl _) (.cells #[.int .i64 st, .int .i64 sa, .slice A n c] 27)).more (by simp <;> omega)) hn)
  have HL := hide hr.len
  have B0 : Hid (Below w.heap.size w (w.alloc (.cells #[.int .i64 st, .int .i64 sa, .slice A n c] 27))) := (Below.refl _ _).alloc (Nat.le_refl _) _
  have BW : Hid (Below (w.alloc (.cells #[.int .i64 st, .int .i64 sa, .slice A n c] 27)).heap.size (w.alloc (.cells #[.int .i64 st, .int .i64 sa, .slice A n c] 27)) (w.alloc (.cells #[.int .i64 st, .int .i64 sa, .slice A n c] 27))) := Below.refl _ _
  have HR := hide hr
  clear hr
  rw [unhide HL]
  cases h1 : goodB st sa xs
  · go_enter Try.func32, Try.ntmps32
    go_wp2_with (go_at_call 15; refine (unhide HG).mono ?_; rintro e w1 ⟨rfl, hb⟩; have HBW := hide ((unhide BW).trans (hb.mono (by simp))); obtain ⟨hl1, p0, p1, p2⟩ := box3_new (unhide HBW); clear hb)
    go_ret2
    exact ⟨none, 0, 0, rfl, OwnI.nil _ _, (unhide B0).trans ((unhide HBW).mono (by simp))⟩
  · obtain ⟨_, ⟨g0, g1⟩, hs, _⟩ := goodB_parts h1
    have hn24 : n ≤ 24 := by have := smpB_len hs; have := unhide HL; omega
    clear hs
    go_enter Try.func32, Try.ntmps32
    go_wp2_with (go_at_call 15; refine (unhide HG).mono ?_; rintro e w1 ⟨rfl, hb⟩; have HBW := hide ((unhide BW).trans (hb.mono (by simp))); obtain ⟨hl1, p0, p1, p2⟩ := box3_new (unhide HBW); clear hb)
    clear p0 p1 p2
    go_loopw [4, 5] (fun v i wr => ∃ (k m : Nat) (A' : Option Addr) (c' : Nat), 1 ≤ k ∧ k ≤ max 1 n ∧ m ≤ k ∧ i = .int .i64 k ∧ v = .slice A' m c' ∧ Hid (OwnI wr (w.alloc (.cells #[.int .i64 st, .int .i64 sa, .slice A n c] 27)).heap.size A' m c' (crossI sa xs k)) ∧ Hid (Below (w.alloc (.cells #[.int .i64 st, .int .i64 sa, .slice A n c] 27)).heap.size (w.alloc (.cells #[.int .i64 st, .int .i64 sa, .slice A n c] 27)) wr)) (fun _ i _ => n - (intOf i).toNat)
    case atStart => exact ⟨1, 0, _, _, by omega, by omega, by omega, rfl, rfl, by rw [cross_one]; exact OwnI.empty _ (unhide HBW).size, (unhide HBW).alloc (unhide HBW).size _⟩
    case round =>
      obtain ⟨k, m, A', c', hk0, hk, hmk, rfl, rfl, hO, hB⟩ := hrel
      obtain ⟨hl1, p0, p1, p2⟩ := box3_new (unhide hB)
      have HBA : Hid (Below w.heap.size w wr) := (unhide B0).trans ((unhide hB).mono (by simp))
      by_cases hlt : k < n
      · obtain ⟨ad, x, rfl, _, hx, hc⟩ := ((unhide HR).below (unhide HBA)).get hlt
        obtain ⟨ae, a, had, _, ha, hca⟩ := ((unhide HR).below (unhide HBA)).get (show k - 1 < n by omega)
        obtain rfl : ad = ae := by simpa using had
        have HH := hide (cross_step sa xs k a x hk0 (unhide ha) (unhide hx))
        have l1 : (k : Int) < (n : Int) := by omega
        have l2 : (k : Int) - 1 < (n : Int) := by omega
        have l3 : 0 ≤ (k : Int) - 1 := by omega
        have l4 : (1 : Int) ≤ (k : Int) := by omega
        have l5 : (k : Int) ≤ (n : Int) := by omega
        have l6 : (k : Int) < (n : Int) + 1 := by omega
        have e3 : ((k : Int) - 1).toNat = k - 1 := by omega
        clear hx ha had
        cases hx0 : decide (0 ≤ x) <;> cases ha0 : decide (0 ≤ a)
        all_goals
          have HT := hide (unhide HH)
          simp only [crB, hx0, ha0] at HT
          have s1 : IntKind.i64.wrap ((k : Int) - 1) = (k : Int) - 1 := IntWalk.i64_in _ (by omega)
          go_wp2
          go_quiet (fail)
          clear s1 e3 HH
          have s2 : IntKind.i64.wrap (sa + (k : Int)) = sa + (k : Int) := IntWalk.i64_in _ (by omega)
        · clear s2
          have HO2 : Hid (∀ q, OwnI (wr.drewN q) (w.alloc (.cells #[.int .i64 st, .int .i64 sa, .slice (some ad) n c] 27)).heap.size A' m c' (crossI sa xs (k + 1))) := fun q => by
            rw [show crossI sa xs (k + 1) = crossI sa xs k from by simpa using unhide HT]
            exact OwnI.below (unhide hO) (below_drewN (Below.refl _ _) _) (Nat.le_refl _)
          clear hO HT
          go_wp2
          go_roundw
          case rel => exact ⟨k + 1, m, A', c', by omega, by omega, by omega, by go_num, rfl, unhide HO2 _, below_drewN (unhide hB) _⟩
          case measure => simp [intOf]; omega
        · have HT2 : Hid (crossI sa xs (k + 1) = crossI sa xs k ++ [sa + (k : Int)]) := by simpa [Hid] using unhide HT
          go_wp2_with (at_builtin; refine append_int _ rfl _ _ rfl (w.alloc (.cells #[.int .i64 st, .int .i64 sa, .slice (some ad) n c] 27)) A' m c' (crossI sa xs k) rfl ((OwnI.below (unhide hO) (below_drewN (Below.refl _ _) _) (Nat.le_refl _)).alloc _) ((below_drewN (unhide hB) _).alloc (unhide hB).size _) _ (sa + (k : Int)) rfl (cellNew _ _ _) (by omega) ?_; intro A2 c2 w2 hO2 hB2)
          rw [← unhide HT2] at hO2
          have HO2 := hide hO2
          have HB2 := hide hB2
          obtain ⟨hl2, r0, r1, r2⟩ := box3_new hB2
          clear hO2 hB2 hO hB HT HT2
          go_wp2
          go_roundw
          case rel => exact ⟨k + 1, m + 1, A2, c2, by omega, by omega, by omega, by go_num, rfl, HO2, HB2⟩
          case measure => simp [intOf]; omega
        · have HT2 : Hid (crossI sa xs (k + 1) = crossI sa xs k ++ [sa + (k : Int)]) := by simpa [Hid] using unhide HT
          go_wp2_with (at_builtin; refine append_int _ rfl _ _ rfl (w.alloc (.cells #[.int .i64 st, .int .i64 sa, .slice (some ad) n c] 27)) A' m c' (crossI sa xs k) rfl ((OwnI.below (unhide hO) (below_drewN (Below.refl _ _) _) (Nat.le_refl _)).alloc _) ((below_drewN (unhide hB) _).alloc (unhide hB).size _) _ (sa + (k : Int)) rfl (cellNew _ _ _) (by omega) ?_; intro A2 c2 w2 hO2 hB2)
          rw [← unhide HT2] at hO2
          have HO2 := hide hO2
          have HB2 := hide hB2
          obtain ⟨hl2, r0, r1, r2⟩ := box3_new hB2
          clear hO2 hB2 hO hB HT HT2
          go_wp2
          go_roundw
          case rel => exact ⟨k + 1, m + 1, A2, c2, by omega, by omega, by omega, by go_num, rfl, HO2, HB2⟩
          case measure => simp [intOf]; omega
        · clear s2
          have HO2 : Hid (∀ q, OwnI (wr.drewN q) (w.alloc (.cells #[.int .i64 st, .int .i64 sa, .slice (some ad) n c] 27)).heap.size A' m c' (crossI sa xs (k + 1))) := fun q => by
            rw [show crossI sa xs (k + 1) = crossI sa xs k from by simpa using unhide HT]
            exact OwnI.below (unhide hO) (below_drewN (Below.refl _ _) _) (Nat.le_refl _)
          clear hO HT
          go_wp2
          go_roundw
          case rel => exact ⟨k + 1, m, A', c', by omega, by omega, by omega, by go_num, rfl, unhide HO2 _, below_drewN (unhide hB) _⟩
          case measure => simp [intOf]; omega
      · have HE : Hid (crossI sa xs n = crossI sa xs k) := by
          unfold Hid
          by_cases e : k = n
          · rw [e]
          · obtain ⟨rfl, rfl⟩ : k = 1 ∧ n = 0 := by omega
            rw [cross_one]; rfl
        go_wp2
        go_ret2
        exact ⟨A', m, c', rfl, by (have h9 := (unhide hO).less (show w.heap.size ≤ (w.alloc (.cells #[.int .i64 st, .int .i64 sa, .slice A n c] 27)).heap.size by simp); rw [← unhide HE] at h9; simpa using h9), unhide HBA⟩

set_option maxHeartbeats 4000000 in
set_option maxRecDepth 100000 in
theorem specCross_any (st sa : Int) (A : Option Addr) (n c : Nat) (xs : List Int) (w : World) (hr : RI w w.heap.size A n xs) (hn : n ≤ 1048576) :
    Calls Try.prog 31 #[.agg #[.int .i64 st, .int .i64 sa, .slice A n c]] w (RetIB w (if goodB st sa xs then crossI sa xs xs.length else []) (goodB st sa xs)) := by
  have HG := hide (l2Good_any st sa A n c xs ((w.alloc (.cells #[.int .i64 st, .int .i64 sa, .slice A n c] 27)).alloc (.cells #[] 3)) (((hr.alloc (Nat.le_refl _) (.cells #[.int .i64 st, .int .i64 sa, .slice A n c] 27)).alloc (by simp) (.cells #[] 3)).more (by simp <;> omega)) hn)
  have HL := hide hr.len
  have B0 : Hid (Below w.heap.size w (w.alloc (.cells #[.int .i64 st, .int .i64 sa, .slice A n c] 27))) := (Below.refl _ _).alloc (Nat.le_refl _) _
  have BW : Hid (Below (w.alloc (.cells #[.int .i64 st, .int .i64 sa, .slice A n c] 27)).heap.size (w.alloc (.cells #[.int .i64 st, .int .i64 sa, .slice A n c] 27)) ((w.alloc (.cells #[.int .i64 st, .int .i64 sa, .slice A n c] 27)).alloc (.cells #[] 3))) := (Below.refl _ _).alloc (Nat.le_refl _) _
  have HR := hide hr
  clear hr
  rw [unhide HL]
  cases h1 : goodB st sa xs
  · go_enter Try.func31, Try.ntmps31
    go_wp2_with (go_at_call 46; refine (unhide HG).mono ?_; rintro e w1 ⟨rfl, hb⟩; have HBW := hide ((unhide BW).trans (hb.mono (by simp))); obtain ⟨hl1, p0, p1, p2⟩ := box3_new (unhide HBW); have HO0 := hide ((OwnI.empty (w.alloc (.cells #[.int .i64 st, .int .i64 sa, .slice A n c] 27)) (Nat.le_refl _)).below hb (Nat.le_refl _)); clear hb)
    go_ret2
    exact ⟨_, _, _, rfl, by (have h9 := OwnI.less (unhide HO0) (show w.heap.size ≤ (w.alloc (.cells #[.int .i64 st, .int .i64 sa, .slice A n c] 27)).heap.size by simp); simpa using h9), (unhide B0).trans ((unhide HBW).mono (by simp))⟩
  · obtain ⟨_, ⟨g0, g1⟩, hs, _⟩ := goodB_parts h1
    have hn24 : n ≤ 24 := by have := smpB_len hs; have := unhide HL; omega
    clear hs
    go_enter Try.func31, Try.ntmps31
    go_wp2_with (go_at_call 46; refine (unhide HG).mono ?_; rintro e w1 ⟨rfl, hb⟩; have HBW := hide ((unhide BW).trans (hb.mono (by simp))); obtain ⟨hl1, p0, p1, p2⟩ := box3_new (unhide HBW); have HO0 := hide ((OwnI.empty (w.alloc (.cells #[.int .i64 st, .int .i64 sa, .slice A n c] 27)) (Nat.le_refl _)).below hb (Nat.le_refl _)); clear hb)
    clear p0 p1 p2
    go_loopw [4, 5] (fun v i wr => ∃ (k m : Nat) (A' : Option Addr) (c' : Nat), 1 ≤ k ∧ k ≤ max 1 n ∧ m ≤ k ∧ i = .int .i64 k ∧ v = .slice A' m c' ∧ Hid (OwnI wr (w.alloc (.cells #[.int .i64 st, .int .i64 sa, .slice A n c] 27)).heap.size A' m c' (crossI sa xs k)) ∧ Hid (Below (w.alloc (.cells #[.int .i64 st, .int .i64 sa, .slice A n c] 27)).heap.size (w.alloc (.cells #[.int .i64 st, .int .i64 sa, .slice A n c] 27)) wr)) (fun _ i _ => n - (intOf i).toNat)
    case atStart => exact ⟨1, 0, _, _, by omega, by omega, by omega, rfl, rfl, by rw [cross_one]; simpa [Hid] using HO0, unhide HBW⟩
    case round =>
      obtain ⟨k, m, A', c', hk0, hk, hmk, rfl, rfl, hO, hB⟩ := hrel
      obtain ⟨hl1, p0, p1, p2⟩ := box3_new (unhide hB)
      have HBA : Hid (Below w.heap.size w wr) := (unhide B0).trans ((unhide hB).mono (by simp))
      by_cases hlt : k < n
      · obtain ⟨ad, x, rfl, _, hx, hc⟩ := ((unhide HR).below (unhide HBA)).get hlt
        obtain ⟨ae, a, had, _, ha, hca⟩ := ((unhide HR).below (unhide HBA)).get (show k - 1 < n by omega)
        obtain rfl : ad = ae := by simpa using had
        have HH := hide (cross_step sa xs k a x hk0 (unhide ha) (unhide hx))
        have l1 : (k : Int) < (n : Int) := by omega
        have l2 : (k : Int) - 1 < (n : Int) := by omega
        have l3 : 0 ≤ (k : Int) - 1 := by omega
        have l4 : (1 : Int) ≤ (k : Int) := by omega
        have l5 : (k : Int) ≤ (n : Int) := by omega
        have l6 : (k : Int) < (n : Int) + 1 := by omega
        have e3 : ((k : Int) - 1).toNat = k - 1 := by omega
        clear hx ha had
        cases hx0 : decide (0 ≤ x) <;> cases ha0 : decide (0 ≤ a)
        all_goals
          have HT := hide (unhide HH)
          simp only [crB, hx0, ha0] at HT
          have s1 : IntKind.i64.wrap ((k : Int) - 1) = (k : Int) - 1 := IntWalk.i64_in _ (by omega)
          go_wp2
          go_quiet (fail)
          clear s1 e3 HH
          have s2 : IntKind.i64.wrap (sa + (k : Int)) = sa + (k : Int) := IntWalk.i64_in _ (by omega)
        · clear s2
          have HO2 : Hid (∀ q, OwnI (wr.drewN q) (w.alloc (.cells #[.int .i64 st, .int .i64 sa, .slice (some ad) n c] 27)).heap.size A' m c' (crossI sa xs (k + 1))) := fun q => by
            rw [show crossI sa xs (k + 1) = crossI sa xs k from by simpa using unhide HT]
            exact OwnI.below (unhide hO) (below_drewN (Below.refl _ _) _) (Nat.le_refl _)
          clear hO HT
          go_wp2
          go_roundw
          case rel => exact ⟨k + 1, m, A', c', by omega, by omega, by omega, by go_num, rfl, unhide HO2 _, below_drewN (unhide hB) _⟩
          case measure => simp [intOf]; omega
        · have HT2 : Hid (crossI sa xs (k + 1) = crossI sa xs k ++ [sa + (k : Int)]) := by simpa [Hid] using unhide HT
          go_wp2_with (at_builtin; refine append_int _ rfl _ _ rfl (w.alloc (.cells #[.int .i64 st, .int .i64 sa, .slice (some ad) n c] 27)) A' m c' (crossI sa xs k) rfl ((OwnI.below (unhide hO) (below_drewN (Below.refl _ _) _) (Nat.le_refl _)).alloc _) ((below_drewN (unhide hB) _).alloc (unhide hB).size _) _ (sa + (k : Int)) rfl (cellNew _ _ _) (by omega) ?_; intro A2 c2 w2 hO2 hB2)
          rw [← unhide HT2] at hO2
          have HO2 := hide hO2
          have HB2 := hide hB2
          obtain ⟨hl2, r0, r1, r2⟩ := box3_new hB2
          clear hO2 hB2 hO hB HT HT2
          go_wp2
          go_roundw
          case rel => exact ⟨k + 1, m + 1, A2, c2, by omega, by omega, by omega, by go_num, rfl, HO2, HB2⟩
          case measure => simp [intOf]; omega
        · have HT2 : Hid (crossI sa xs (k + 1) = crossI sa xs k ++ [sa + (k : Int)]) := by simpa [Hid] using unhide HT
          go_wp2_with (at_builtin; refine append_int _ rfl _ _ rfl (w.alloc (.cells #[.int .i64 st, .int .i64 sa, .slice (some ad) n c] 27)) A' m c' (crossI sa xs k) rfl ((OwnI.below (unhide hO) (below_drewN (Below.refl _ _) _) (Nat.le_refl _)).alloc _) ((below_drewN (unhide hB) _).alloc (unhide hB).size _) _ (sa + (k : Int)) rfl (cellNew _ _ _) (by omega) ?_; intro A2 c2 w2 hO2 hB2)
          rw [← unhide HT2] at hO2
          have HO2 := hide hO2
          have HB2 := hide hB2
          obtain ⟨hl2, r0, r1, r2⟩ := box3_new hB2
          clear hO2 hB2 hO hB HT HT2
          go_wp2
          go_roundw
          case rel => exact ⟨k + 1, m + 1, A2, c2, by omega, by omega, by omega, by go_num, rfl, HO2, HB2⟩
          case measure => simp [intOf]; omega
        · clear s2
          have HO2 : Hid (∀ q, OwnI (wr.drewN q) (w.alloc (.cells #[.int .i64 st, .int .i64 sa, .slice (some ad) n c] 27)).heap.size A' m c' (crossI sa xs (k + 1))) := fun q => by
            rw [show crossI sa xs (k + 1) = crossI sa xs k from by simpa using unhide HT]
            exact OwnI.below (unhide hO) (below_drewN (Below.refl _ _) _) (Nat.le_refl _)
          clear hO HT
          go_wp2
          go_roundw
          case rel => exact ⟨k + 1, m, A', c', by omega, by omega, by omega, by go_num, rfl, unhide HO2 _, below_drewN (unhide hB) _⟩
          case measure => simp [intOf]; omega
      · have HE : Hid (crossI sa xs n = crossI sa xs k) := by
          unfold Hid
          by_cases e : k = n
          · rw [e]
          · obtain ⟨rfl, rfl⟩ : k = 1 ∧ n = 0 := by omega
            rw [cross_one]; rfl
        go_wp2
        go_ret2
        exact ⟨A', m, c', rfl, by (have h9 := (unhide hO).less (show w.heap.size ≤ (w.alloc (.cells #[.int .i64 st, .int .i64 sa, .slice A n c] 27)).heap.size by simp); rw [← unhide HE] at h9; simpa using h9), unhide HBA⟩
end Go.Proofs.Ytdpmpdhhjmbbcaa
