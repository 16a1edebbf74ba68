/- Chapter 4, the walks: differences, folded numbers, widths and packed samples as they are asked for; samples from differences: the program's and the reference's. -/
import Derived.Test.YtnigieebmjjjjaaProg
import Derived.Test.YtnigieebmjjjjaaPackB
import Derived.Deep.RegionHeld3
namespace Go.Proofs.Ytnigieebmjjjjaa
open Go.RowKit

theorem packI_len (xs : List Int) : (if smpB xs then packI xs else []).length ≤ 2097152 := by
  cases h : smpB xs
  · simp
  · have h1 := smpB_len h
    have h2 := packK_len xs xs.length
    rw [packK_end xs _ (Nat.le_refl _)] at h2
    simp
    omega

/-- an int and a bool come back -/
def RetNB (w : World) (r : Int) (b : Bool) (e : Ending) (w' : World) : Prop := e = .returned (.tuple #[.int .i64 r, .bool b]) ∧ Below w.heap.size w w'

set_option maxHeartbeats 400000 in
theorem specDifferences_any (A : Option Addr) (n c : Nat) (xs : List Int) (w : World) (hr : RI w w.heap.size A n xs) (hn : n ≤ 1048576) :
    Calls Try.prog 14 #[.slice A n c] w (RetIB w (if smpB xs then diffI xs else []) (smpB xs)) := by
  have HA := hide (l2Samples_any A n c _ xs _ hr (by omega))
  cases h1 : smpB xs
  · clear hr
    go_enter Try.func14, Try.ntmps14
    go_wp2_with (go_at_call 46; refine (unhide HA).mono ?_; rintro e w1 ⟨rfl, rfl⟩)
    go_ret2
    exact ⟨_, _, _, rfl, OwnI.empty _ (Nat.le_refl _), (Below.refl _ _).alloc (Nat.le_refl _) _⟩
  · have HC := hide (l4Diffs_any A n c 0 xs w hr (smpB_all h1) (by have := smpB_len h1; have := hr.len; omega))
    clear hr
    go_enter Try.func14, Try.ntmps14
    go_wp2_with (first
      | (go_at_call 46; refine (unhide HA).mono ?_; rintro e w1 ⟨rfl, rfl⟩)
      | (go_at_call 47; refine (unhide HC).mono ?_; rintro e w2 ⟨A2, n2, c2, rfl, hO, hB⟩; have HO := hide hO; have HB := hide hB; clear hO hB))
    go_ret2
    exact ⟨_, _, _, rfl, unhide HO, unhide HB⟩

set_option maxHeartbeats 400000 in
theorem implDifferences_any (A : Option Addr) (n c : Nat) (xs : List Int) (w : World) (hr : RI w w.heap.size A n xs) (hn : n ≤ 1048576) :
    Calls Try.prog 16 #[.slice A n c] w (RetIB w (if smpB xs then diffI xs else []) (smpB xs)) := by
  have HA := hide (areSamples_any A n c xs _ hr (by omega))
  cases h1 : smpB xs
  · clear hr
    go_enter Try.func16, Try.ntmps16
    go_wp2_with (go_at_call 48; refine (unhide HA).mono ?_; rintro e w1 ⟨rfl, hb⟩; have HB := hide hb; clear hb)
    go_ret2
    exact ⟨none, 0, 0, rfl, OwnI.nil _ _, unhide HB⟩
  · have HC := hide (fun (W : World) (h : RI W W.heap.size A n xs) => differences_any A n c xs W h (smpB_all h1) (by have := smpB_len h1; have := hr.len; omega))
    have HR := hide hr
    clear hr
    go_enter Try.func16, Try.ntmps16
    go_wp2_with (first
      | (go_at_call 48; refine (unhide HA).mono ?_; rintro e w1 ⟨rfl, hb⟩; have HB := hide hb; clear hb)
      | (go_at_call 49; refine (unhide HC _ (((unhide HR).below (unhide HB)).more (unhide HB).size)).mono ?_; rintro e w2 ⟨A2, n2, c2, rfl, hO, hB⟩; have HO := hide hO; have HB2 := hide hB; clear hO hB))
    go_ret2
    exact ⟨_, _, _, rfl, (unhide HO).less (unhide HB).size, (unhide HB).trans ((unhide HB2).mono (unhide HB).size)⟩

set_option maxHeartbeats 400000 in
theorem specPackSamples_any (A : Option Addr) (n c : Nat) (xs : List Int) (w : World) (hr : RI w w.heap.size A n xs) (hn : n ≤ 1048576) :
    Calls Try.prog 26 #[.slice A n c] w (RetIB w (if smpB xs then packI xs else []) (smpB xs)) := by
  have HA := hide (l2Samples_any A n c _ xs _ hr (by omega))
  cases h1 : smpB xs
  · clear hr
    go_enter Try.func26, Try.ntmps26
    go_wp2_with (go_at_call 46; refine (unhide HA).mono ?_; rintro e w1 ⟨rfl, rfl⟩)
    go_ret2
    exact ⟨_, _, _, rfl, OwnI.empty _ (Nat.le_refl _), (Below.refl _ _).alloc (Nat.le_refl _) _⟩
  · have HC := hide (l4Pack_any A n c xs w hr (smpB_all h1) (by have := smpB_len h1; have := hr.len; omega))
    clear hr
    go_enter Try.func26, Try.ntmps26
    go_wp2_with (first
      | (go_at_call 46; refine (unhide HA).mono ?_; rintro e w1 ⟨rfl, rfl⟩)
      | (go_at_call 58; refine (unhide HC).mono ?_; rintro e w2 ⟨A2, n2, c2, rfl, hO, hB⟩; have HO := hide hO; have HB := hide hB; clear hO hB))
    go_ret2
    exact ⟨_, _, _, rfl, unhide HO, unhide HB⟩

set_option maxHeartbeats 400000 in
theorem implPackSamples_any (A : Option Addr) (n c : Nat) (xs : List Int) (w : World) (hr : RI w w.heap.size A n xs) (hn : n ≤ 1048576) :
    Calls Try.prog 27 #[.slice A n c] w (RetIB w (if smpB xs then packI xs else []) (smpB xs)) := by
  have HA := hide (areSamples_any A n c xs _ hr (by omega))
  cases h1 : smpB xs
  · clear hr
    go_enter Try.func27, Try.ntmps27
    go_wp2_with (go_at_call 48; refine (unhide HA).mono ?_; rintro e w1 ⟨rfl, hb⟩; have HB := hide hb; clear hb)
    go_ret2
    exact ⟨none, 0, 0, rfl, OwnI.nil _ _, unhide HB⟩
  · have HC := hide (fun (W : World) (h : RI W W.heap.size A n xs) => pack_any A n c xs W h (smpB_all h1) (by have := smpB_len h1; have := hr.len; omega))
    have HR := hide hr
    clear hr
    go_enter Try.func27, Try.ntmps27
    go_wp2_with (first
      | (go_at_call 48; refine (unhide HA).mono ?_; rintro e w1 ⟨rfl, hb⟩; have HB := hide hb; clear hb)
      | (go_at_call 59; refine (unhide HC _ (((unhide HR).below (unhide HB)).more (unhide HB).size)).mono ?_; rintro e w2 ⟨A2, n2, c2, rfl, hO, hB⟩; have HO := hide hO; have HB2 := hide hB; clear hO hB))
    go_ret2
    exact ⟨_, _, _, rfl, (unhide HO).less (unhide HB).size, (unhide HB).trans ((unhide HB2).mono (unhide HB).size)⟩

theorem specFoldedOf_any (d : Int) (w : World) : Calls Try.prog 22 #[.int .i64 d] w (RetNB w (if inB d (-200000) 200000 then foldI d else 0) (inB d (-200000) 200000)) := by
  cases h1 : inB d (-200000) 200000
  · go_enter Try.func22, Try.ntmps22
    go_wp2_with (go_at_call 52; refine (l4Diff_any _ _).mono ?_; rintro e w1 ⟨rfl, rfl⟩)
    go_ret2
    exact ⟨rfl, Below.refl _ _⟩
  · obtain ⟨g0, g1⟩ := inB_iff.1 h1
    have HC := hide (fun W => l4Fold_any d W g0 g1)
    go_enter Try.func22, Try.ntmps22
    go_wp2_with (first
      | (go_at_call 52; refine (l4Diff_any _ _).mono ?_; rintro e w1 ⟨rfl, rfl⟩)
      | (go_at_call 53; refine (unhide HC _).mono ?_; rintro e w1 ⟨rfl, rfl⟩))
    go_ret2
    exact ⟨rfl, Below.refl _ _⟩

theorem implFoldedOf_any (d : Int) (w : World) : Calls Try.prog 23 #[.int .i64 d] w (RetNB w (if inB d (-200000) 200000 then foldI d else 0) (inB d (-200000) 200000)) := by
  cases h1 : inB d (-200000) 200000
  · go_enter Try.func23, Try.ntmps23
    go_wp2_with (go_at_call 54; refine (isDifference_any _ _).mono ?_; rintro e w1 ⟨rfl, rfl⟩)
    go_ret2
    exact ⟨rfl, Below.refl _ _⟩
  · obtain ⟨g0, g1⟩ := inB_iff.1 h1
    have HC := hide (fun W => folded_any d W g0 g1)
    go_enter Try.func23, Try.ntmps23
    go_wp2_with (first
      | (go_at_call 54; refine (isDifference_any _ _).mono ?_; rintro e w1 ⟨rfl, rfl⟩)
      | (go_at_call 55; refine (unhide HC _).mono ?_; rintro e w1 ⟨rfl, rfl⟩))
    go_ret2
    exact ⟨rfl, Below.refl _ _⟩

theorem specPackedWidth_any (d : Int) (w : World) : Calls Try.prog 24 #[.int .i64 d] w (RetNB w (if inB d (-200000) 200000 then ((bytesI (foldI d)).length : Int) else 0) (inB d (-200000) 200000)) := by
  cases h1 : inB d (-200000) 200000
  · go_enter Try.func24, Try.ntmps24
    go_wp2_with (go_at_call 52; refine (l4Diff_any _ _).mono ?_; rintro e w1 ⟨rfl, rfl⟩)
    go_ret2
    exact ⟨rfl, Below.refl _ _⟩
  · obtain ⟨g0, g1⟩ := inB_iff.1 h1
    have HC := hide (fun W => l4Fold_any d W g0 g1)
    have f0 := foldI_nonneg d
    have f1 := foldI_le d g0 g1
    have HD := hide (fun W => l4Bytes_any (foldI d) W f0 (by omega))
    generalize foldI d = N at *
    go_enter Try.func24, Try.ntmps24
    go_wp2_with (first
      | (go_at_call 52; refine (l4Diff_any _ _).mono ?_; rintro e w1 ⟨rfl, rfl⟩)
      | (go_at_call 53; refine (unhide HC _).mono ?_; rintro e w1 ⟨rfl, rfl⟩)
      | (go_at_call 56; refine (unhide HD _).mono ?_; rintro e wb ⟨Ab, mb, cb, rfl, hOb, hBb⟩; have HOb := hide hOb; have HBb := hide hBb; clear hOb hBb))
    go_ret2
    have e := (unhide HOb).len
    subst e
    exact ⟨rfl, unhide HBb⟩

theorem implPackedWidth_any (d : Int) (w : World) : Calls Try.prog 25 #[.int .i64 d] w (RetNB w (if inB d (-200000) 200000 then ((bytesI (foldI d)).length : Int) else 0) (inB d (-200000) 200000)) := by
  cases h1 : inB d (-200000) 200000
  · go_enter Try.func25, Try.ntmps25
    go_wp2_with (go_at_call 54; refine (isDifference_any _ _).mono ?_; rintro e w1 ⟨rfl, rfl⟩)
    go_ret2
    exact ⟨rfl, Below.refl _ _⟩
  · obtain ⟨g0, g1⟩ := inB_iff.1 h1
    have HD := hide (fun W => packed_any d W g0 g1)
    generalize foldI d = N at *
    go_enter Try.func25, Try.ntmps25
    go_wp2_with (first
      | (go_at_call 54; refine (isDifference_any _ _).mono ?_; rintro e w1 ⟨rfl, rfl⟩)
      | (go_at_call 57; refine (unhide HD _).mono ?_; rintro e wb ⟨Ab, mb, cb, rfl, hOb, hBb⟩; have HOb := hide hOb; have HBb := hide hBb; clear hOb hBb))
    go_ret2
    have e := (unhide HOb).len
    subst e
    exact ⟨rfl, unhide HBb⟩


/-! ### samples from differences -/
theorem okStep_eq (out : List Int) (last d : Int) : okStep out last d = (inB d (-200000) 200000 && inB (last + d) (-100000) 100000 && decide (out.length < 24)) := rfl

set_option maxHeartbeats 1000000 in
theorem readable_any (A : Option Addr) (n c : Nat) (ds : List Int) (w : World) (hr : RI w w.heap.size A n ds) (hn : n ≤ 1048576) :
    Calls Try.prog 51 #[.slice A n c] w (RetI w (readI ds)) := by
  have HR := hide hr
  clear hr
  go_enter Try.func51, Try.ntmps51
  go_wp2
  go_loopw [3, 4, 10] (fun v l i wr => ∃ (k m : Nat) (A' : Option Addr) (c' : Nat) (last : Int) (out : List Int), k ≤ n ∧ i = .int .i64 k ∧ v = .slice A' m c' ∧ l = .int .i64 last ∧ -100000 ≤ last ∧ last ≤ 100000 ∧ m ≤ 24 ∧ Hid (readI ds = readGo out last (ds.drop k)) ∧ Hid (OwnI wr w.heap.size A' m c' out) ∧ Hid (Below w.heap.size w wr)) (fun _ _ i _ => n - (intOf i).toNat)
  case atStart => exact ⟨0, 0, _, _, 0, [], Nat.zero_le _, rfl, rfl, rfl, by omega, by omega, by omega, rfl, OwnI.empty _ (Nat.le_refl _), (Below.refl _ _).alloc (Nat.le_refl _) _⟩
  case round =>
    obtain ⟨k, m, A', c', last, out, hk, rfl, rfl, rfl, h0, h1, hm, hE, hO, hB⟩ := hrel
    by_cases hlt : k < n
    · obtain ⟨ad, d, rfl, hbl, hd, hc⟩ := ((unhide HR).below (unhide hB)).get hlt
      have HH := hide (readGo_hit out last d ds k (unhide hd))
      have HS := hide (readGo_stop out last d ds k (unhide hd))
      have HK := hide (okStep_eq out last d)
      clear hd
      cases t1 : inB d (-200000) 200000 with
      | false =>
        have HE2 : Hid (readI ds = out) := by unfold Hid; rw [unhide hE, unhide HS (by rw [unhide HK, t1]; simp)]
        clear HH HS HK hE
        go_wp2_with (go_at_call 54; refine (isDifference_any _ _).mono ?_; rintro e w1 ⟨rfl, rfl⟩)
        go_ret
        exact ⟨A', m, c', rfl, by rw [unhide HE2]; exact unhide hO, unhide hB⟩
      | true =>
        obtain ⟨g0, g1⟩ := inB_iff.1 t1
        cases t2 : inB (last + d) (-100000) 100000 with
        | false =>
          have HE2 : Hid (readI ds = out) := by unfold Hid; rw [unhide hE, unhide HS (by rw [unhide HK, t2]; simp)]
          clear HH HS HK hE
          go_wp2_with (first
            | (go_at_call 54; refine (isDifference_any _ _).mono ?_; rintro e w1 ⟨rfl, rfl⟩)
            | (go_at_call 71; refine (isSample_any _ _).mono ?_; rintro e w1 ⟨rfl, rfl⟩))
          go_ret
          exact ⟨A', m, c', rfl, by rw [unhide HE2]; exact unhide hO, unhide hB⟩
        | true =>
          obtain ⟨g2, g3⟩ := inB_iff.1 t2
          by_cases hm24 : m = 24
          · have HE2 : Hid (readI ds = out) := by unfold Hid; rw [unhide hE, unhide HS (by rw [unhide HK, (unhide hO).len, hm24]; simp)]
            have ht : ((m : Int) == 24) = true := by simp; omega
            clear HH HS HK hE hm24
            go_wp2_with (first
              | (go_at_call 54; refine (isDifference_any _ _).mono ?_; rintro e w1 ⟨rfl, rfl⟩)
              | (go_at_call 71; refine (isSample_any _ _).mono ?_; rintro e w1 ⟨rfl, rfl⟩))
            go_ret
            exact ⟨A', m, c', rfl, by rw [unhide HE2]; exact unhide hO, unhide hB⟩
          · have HE2 : Hid (readI ds = readGo (out ++ [last + d]) (last + d) (ds.drop (k + 1))) := by unfold Hid; rw [unhide hE, unhide HH (by rw [unhide HK, (unhide hO).len, t1, t2]; simp; omega)]
            have ht : ((m : Int) == 24) = false := by simp; omega
            have hm23 : m ≤ 23 := by omega
            clear HH HS HK hE hm24 hm
            go_wp2_with (first
              | (go_at_call 54; refine (isDifference_any _ _).mono ?_; rintro e w1 ⟨rfl, rfl⟩)
              | (go_at_call 71; refine (isSample_any _ _).mono ?_; rintro e w1 ⟨rfl, rfl⟩)
              | (at_builtin; refine append_int _ rfl _ _ rfl w A' m c' out rfl ((unhide hO).alloc _) ((unhide hB).alloc (unhide hB).size _) _ (last + d) rfl (cellNew _ _ _) (by omega) ?_; intro A2 c2 w2 hO2 hB2))
            have HO2 := hide hO2
            have HB2 := hide hB2
            clear hO2 hB2 hO hB
            go_wp2
            go_roundw
            case rel => exact ⟨k + 1, m + 1, A2, c2, last + d, _, by omega, by go_num, rfl, rfl, by omega, by omega, by omega, HE2, HO2, HB2⟩
            case measure => simp [intOf]; omega
    · have HE2 : Hid (readI ds = out) := by unfold Hid; rw [unhide hE, readGo_end out last ds k (by rw [(unhide HR).len]; omega)]
      clear hE
      go_wp2
      go_ret
      exact ⟨A', m, c', rfl, by rw [unhide HE2]; exact unhide hO, unhide hB⟩
end Go.Proofs.Ytnigieebmjjjjaa
