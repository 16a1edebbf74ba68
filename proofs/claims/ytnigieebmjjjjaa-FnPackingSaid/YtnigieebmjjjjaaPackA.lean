/- Chapter 4, the walks: differences, folded numbers, the bytes of one difference: the program's and the reference's. -/
import Derived.Test.YtnigieebmjjjjaaProg
import Derived.Test.YtnigieebmjjjjaaPreds
import Derived.Test.YtnigieebmjjjjaaPackPlain
namespace Go.Proofs.Ytnigieebmjjjjaa
open Go.RowKit

theorem smpB_all {xs : List Int} (h : smpB xs = true) : ∀ x ∈ xs, -100000 ≤ x ∧ x ≤ 100000 := by
  unfold smpB at h
  simp only [Bool.and_eq_true, List.all_eq_true] at h
  exact fun x hx => inB_iff.1 (h.2 x hx)
theorem smpB_len {xs : List Int} (h : smpB xs = true) : xs.length ≤ 24 := by
  unfold smpB at h
  simp only [Bool.and_eq_true, decide_eq_true_eq] at h
  exact h.1
theorem last_step (xs : List Int) (k : Nat) (x : Int) (hx : xs[k]? = some x) : x = if k + 1 = 0 then 0 else xs.getD (k + 1 - 1) 0 := by
  rw [if_neg (by omega), Nat.add_sub_cancel, getD_of hx]

set_option maxHeartbeats 400000 in
theorem l4Diffs_any (A : Option Addr) (n c L : Nat) (xs : List Int) (w : World) (hr : RI w w.heap.size A n xs) (hs : ∀ x ∈ xs, -100000 ≤ x ∧ x ≤ 100000) (hn : n ≤ 1048576) :
    Calls Try.prog 47 #[.slice A n c] w (RetI w (diffI xs)) := by
  have HR := hide hr
  have HS := hide hs
  clear hr hs
  go_enter Try.func47, Try.ntmps47
  go_wp2
  go_loopw [3, 4, 5] (fun v l i wr => ∃ (k : Nat) (A' : Option Addr) (c' : Nat) (last : Int), k ≤ n ∧ i = .int .i64 k ∧ v = .slice A' k c' ∧ l = .int .i64 last ∧ -100000 ≤ last ∧ last ≤ 100000 ∧ Hid (last = if k = 0 then 0 else xs.getD (k - 1) 0) ∧ Hid (OwnI wr w.heap.size A' k c' (diffK xs k)) ∧ Hid (Below w.heap.size w wr)) (fun _ _ i _ => n - (intOf i).toNat)
  case atStart => exact ⟨0, _, _, 0, Nat.zero_le _, rfl, rfl, rfl, by omega, by omega, by simp [Hid], OwnI.empty _ (Nat.le_refl _), (Below.refl _ _).alloc (Nat.le_refl _) _⟩
  case round =>
    obtain ⟨k, A', c', last, hk, rfl, rfl, rfl, h0, h1, hE, hO, hB⟩ := hrel
    by_cases hlt : k < n
    · obtain ⟨ad, x, rfl, hbl, hx, hc⟩ := ((unhide HR).below (unhide hB)).get hlt
      obtain ⟨hx1, hx2⟩ := unhide HS x (List.mem_of_getElem? (unhide hx))
      have hbk : (ad.add k).block < w.heap.size := by rw [block_of_add]; exact hbl
      have HX := hide (diffK_step xs k x last (unhide hx) (unhide hE))
      have HE2 := hide (last_step xs k x (unhide hx))
      clear hx hE
      go_wp2_with (at_builtin; refine append_int _ rfl _ _ rfl w A' k c' (diffK xs k) rfl ((unhide hO).alloc _) ((unhide hB).alloc (unhide hB).size _) _ (x - last) rfl (cellNew _ _ _) (by omega) ?_; intro A2 c2 w2 hO2 hB2; have hc2 := (hB2.cell hbk).trans (((unhide hB).cell hbk).symm.trans hc))
      rw [← unhide HX] at hO2
      have HO2 := hide hO2
      have HB2 := hide hB2
      clear hO2 hB2 hO hB HX hc
      go_wp2
      go_roundw
      case rel => exact ⟨k + 1, A2, c2, x, by omega, by go_num, rfl, rfl, hx1, hx2, HE2, HO2, HB2⟩
      case measure => simp [intOf]; omega
    · have e : k = n := by omega
      subst e
      go_wp2
      go_ret
      refine ⟨A', k, c', rfl, ?_, unhide hB⟩
      unfold diffI
      rw [(unhide HR).len]
      exact unhide hO

set_option maxHeartbeats 400000 in
theorem differences_any (A : Option Addr) (n c : Nat) (xs : List Int) (w : World) (hr : RI w w.heap.size A n xs) (hs : ∀ x ∈ xs, -100000 ≤ x ∧ x ≤ 100000) (hn : n ≤ 1048576) :
    Calls Try.prog 49 #[.slice A n c] w (RetI w (diffI xs)) := by
  have HR := hide hr
  have HS := hide hs
  clear hr hs
  go_enter Try.func49, Try.ntmps49
  go_wp2
  go_loopw [3, 4, 10] (fun v l i wr => ∃ (k : Nat) (A' : Option Addr) (c' : Nat) (last : Int), k ≤ n ∧ i = .int .i64 k ∧ v = .slice A' k c' ∧ l = .int .i64 last ∧ -100000 ≤ last ∧ last ≤ 100000 ∧ Hid (last = if k = 0 then 0 else xs.getD (k - 1) 0) ∧ Hid (OwnI wr w.heap.size A' k c' (diffK xs k)) ∧ Hid (Below w.heap.size w wr)) (fun _ _ i _ => n - (intOf i).toNat)
  case atStart => exact ⟨0, _, _, 0, Nat.zero_le _, rfl, rfl, rfl, by omega, by omega, by simp [Hid], OwnI.empty _ (Nat.le_refl _), (Below.refl _ _).alloc (Nat.le_refl _) _⟩
  case round =>
    obtain ⟨k, A', c', last, hk, rfl, rfl, rfl, h0, h1, hE, hO, hB⟩ := hrel
    by_cases hlt : k < n
    · obtain ⟨ad, x, rfl, hbl, hx, hc⟩ := ((unhide HR).below (unhide hB)).get hlt
      obtain ⟨hx1, hx2⟩ := unhide HS x (List.mem_of_getElem? (unhide hx))
      have HX := hide (diffK_step xs k x last (unhide hx) (unhide hE))
      have HE2 := hide (last_step xs k x (unhide hx))
      clear hx hE
      go_wp2_with (at_builtin; refine append_int _ rfl _ _ rfl w A' k c' (diffK xs k) rfl ((unhide hO).alloc _) ((unhide hB).alloc (unhide hB).size _) _ (x - last) rfl (cellNew _ _ _) (by omega) ?_; intro A2 c2 w2 hO2 hB2)
      rw [← unhide HX] at hO2
      have HO2 := hide hO2
      have HB2 := hide hB2
      clear hO2 hB2 hO hB HX hc
      go_wp2
      go_roundw
      case rel => exact ⟨k + 1, A2, c2, x, by omega, by go_num, rfl, rfl, hx1, hx2, HE2, HO2, HB2⟩
      case measure => simp [intOf]; omega
    · have e : k = n := by omega
      subst e
      go_wp2
      go_ret
      refine ⟨A', k, c', rfl, ?_, unhide hB⟩
      unfold diffI
      rw [(unhide HR).len]
      exact unhide hO

/-! ### one difference -/
theorem l4Diff_any (d : Int) (w : World) : Calls Try.prog 52 #[.int .i64 d] w fun e w' => e = .returned (.bool (inB d (-200000) 200000)) ∧ w = w' := by
  go_enter Try.func52, Try.ntmps52
  go_wp2_with (go_at_call 69; refine (l1In_any _ _ _ _).mono ?_; rintro e w' ⟨rfl, rfl⟩)
  go_ret
  exact ⟨rfl, rfl⟩
theorem isDifference_any (d : Int) (w : World) : Calls Try.prog 54 #[.int .i64 d] w fun e w' => e = .returned (.bool (inB d (-200000) 200000)) ∧ w = w' := by
  go_enter Try.func54, Try.ntmps54
  go_wp2_with (go_at_call 73; refine (in_any _ _ _ _).mono ?_; rintro e w' ⟨rfl, rfl⟩)
  go_ret
  exact ⟨rfl, rfl⟩
theorem l4Fold_any (d : Int) (w : World) (h0 : -200000 ≤ d) (h1 : d ≤ 200000) : Calls Try.prog 53 #[.int .i64 d] w fun e w' => e = .returned (.int .i64 (foldI d)) ∧ w = w' := by
  by_cases h : d < 0
  all_goals
    go_enter Try.func53, Try.ntmps53
    go_wp2
    go_ret
    exact ⟨ret_int (by unfold foldI; split <;> omega), rfl⟩
theorem folded_any (d : Int) (w : World) (h0 : -200000 ≤ d) (h1 : d ≤ 200000) : Calls Try.prog 55 #[.int .i64 d] w fun e w' => e = .returned (.int .i64 (foldI d)) ∧ w = w' := by
  by_cases h : d < 0
  all_goals
    go_enter Try.func55, Try.ntmps55
    go_wp2
    go_ret
    exact ⟨ret_int (by unfold foldI; split <;> omega), rfl⟩
theorem l4Unfold_any (n : Int) (w : World) (h0 : 0 ≤ n) (h1 : n ≤ 100000000) : Calls Try.prog 75 #[.int .i64 n] w fun e w' => e = .returned (.int .i64 (unfI n)) ∧ w = w' := by
  by_cases h : n % 2 = 1
  · have ht : (n % 2 == 1) = true := by simpa using h
    have H := hide h
    clear h
    go_enter Try.func75, Try.ntmps75
    go_wp2
    go_ret
    exact ⟨ret_int (by unfold unfI; rw [if_pos (unhide H)]; have := unhide H; show Go.RowKit.wrap64 (-((n + 1).tdiv 2)) = _; rw [Int.tdiv_eq_ediv_of_nonneg (by omega), IntWalk.wrap64_in _ ⟨by omega, by omega⟩]), rfl⟩
  · have ht : (n % 2 == 1) = false := by simpa using h
    have H := hide h
    clear h
    go_enter Try.func75, Try.ntmps75
    go_wp2
    go_ret
    exact ⟨ret_int (by unfold unfI; rw [if_neg (unhide H)]), rfl⟩
theorem unfolded_any (n : Int) (w : World) (h0 : 0 ≤ n) (h1 : n ≤ 100000000) : Calls Try.prog 77 #[.int .i64 n] w fun e w' => e = .returned (.int .i64 (unfI n)) ∧ w = w' := by
  by_cases h : n % 2 = 1
  · have ht : (n % 2 == 1) = true := by simpa using h
    have H := hide h
    clear h
    go_enter Try.func77, Try.ntmps77
    go_wp2
    go_ret
    exact ⟨ret_int (by unfold unfI; rw [if_pos (unhide H)]; have := unhide H; show Go.RowKit.wrap64 (-((n + 1).tdiv 2)) = _; rw [Int.tdiv_eq_ediv_of_nonneg (by omega), IntWalk.wrap64_in _ ⟨by omega, by omega⟩]), rfl⟩
  · have ht : (n % 2 == 1) = false := by simpa using h
    have H := hide h
    clear h
    go_enter Try.func77, Try.ntmps77
    go_wp2
    go_ret
    exact ⟨ret_int (by unfold unfI; rw [if_neg (unhide H)]), rfl⟩

/-- a literal of numbers -/
theorem OwnI.lit (w : World) (lo : Nat) (xs : List Int) (n : Nat) (hl : lo ≤ w.heap.size) (hn : xs.length = n) (hm : n ≤ 1000) (cs : Array Value) (hc : cs = (cI xs).toArray) : OwnI (w.alloc (.cells cs 3)) lo (some ⟨w.heap.size, 0, none⟩) n n xs := by
  subst hc
  have := World.ownsRow_lit (base := lo) (e := 3) (size := 1) w (cI xs).toArray n hl (by unfold maxLen; omega) (by simp [cI_length, hn])
  simpa [OwnI] using this

theorem l4Bytes_any (n : Int) (w : World) (h0 : 0 ≤ n) (h1 : n ≤ 100000000) : Calls Try.prog 56 #[.int .i64 n] w (RetI w (bytesI n)) := by
  have hb := (Below.refl w.heap.size w).alloc (Nat.le_refl _)
  by_cases h : n < 192
  · have e : Hid (bytesI n = [n]) := by unfold Hid bytesI; rw [if_pos h]
    go_enter Try.func56, Try.ntmps56
    go_wp2
    go_ret
    rw [unhide e]
    exact ⟨_, _, _, rfl, OwnI.lit w _ _ 1 (Nat.le_refl _) rfl (by omega) _ rfl, hb _⟩
  · by_cases h2 : n < 8384
    · have e : Hid (bytesI n = [192 + (n - 192) / 256, (n - 192) % 256]) := by unfold Hid bytesI; rw [if_neg h, if_pos h2]
      go_enter Try.func56, Try.ntmps56
      go_wp2
      go_ret
      rw [unhide e]
      exact ⟨_, _, _, rfl, OwnI.lit w _ _ 2 (Nat.le_refl _) rfl (by omega) _ rfl, hb _⟩
    · have e : Hid (bytesI n = [224 + (n - 8384) / 65536, (n - 8384) / 256 % 256, (n - 8384) % 256]) := by unfold Hid bytesI; rw [if_neg h, if_neg h2]
      go_enter Try.func56, Try.ntmps56
      go_wp2
      go_ret
      rw [unhide e]
      exact ⟨_, _, _, rfl, OwnI.lit w _ _ 3 (Nat.le_refl _) rfl (by omega) _ rfl, hb _⟩

theorem packed_any (d : Int) (w : World) (g0 : -200000 ≤ d) (g1 : d ≤ 200000) : Calls Try.prog 57 #[.int .i64 d] w (RetI w (bytesI (foldI d))) := by
  have hb := (Below.refl w.heap.size w).alloc (Nat.le_refl _)
  have C := fun W => folded_any d W g0 g1
  have h0 := foldI_nonneg d
  have h1 := foldI_le d g0 g1
  generalize foldI d = n at *
  have HC := hide C
  clear C
  by_cases h : n < 192
  · have e : Hid (bytesI n = [n]) := by unfold Hid bytesI; rw [if_pos h]
    go_enter Try.func57, Try.ntmps57
    go_wp2_with (go_at_call 55; refine (unhide HC _).mono ?_; rintro e w1 ⟨rfl, rfl⟩)
    go_ret
    rw [unhide e]
    exact ⟨_, _, _, rfl, OwnI.lit w _ _ 1 (Nat.le_refl _) rfl (by omega) _ rfl, hb _⟩
  · by_cases h2 : n < 8384
    · have e : Hid (bytesI n = [192 + (n - 192) / 256, (n - 192) % 256]) := by unfold Hid bytesI; rw [if_neg h, if_pos h2]
      go_enter Try.func57, Try.ntmps57
      go_wp2_with (go_at_call 55; refine (unhide HC _).mono ?_; rintro e w1 ⟨rfl, rfl⟩)
      go_ret
      rw [unhide e]
      exact ⟨_, _, _, rfl, OwnI.lit w _ _ 2 (Nat.le_refl _) rfl (by omega) _ rfl, hb _⟩
    · have e : Hid (bytesI n = [224 + (n - 8384) / 65536, (n - 8384) / 256 % 256, (n - 8384) % 256]) := by unfold Hid bytesI; rw [if_neg h, if_neg h2]
      go_enter Try.func57, Try.ntmps57
      go_wp2_with (go_at_call 55; refine (unhide HC _).mono ?_; rintro e w1 ⟨rfl, rfl⟩)
      go_ret
      rw [unhide e]
      exact ⟨_, _, _, rfl, OwnI.lit w _ _ 3 (Nat.le_refl _) rfl (by omega) _ rfl, hb _⟩
end Go.Proofs.Ytnigieebmjjjjaa
