/- Chapter 4, the walks: what the laws of packing draw; a list against a list; a sum; a big input. -/
import Derived.Test.YtnigieebmjjjjaaProg
import Derived.Test.YtnigieebmjjjjaaDrawS
import Derived.Test.YtnigieebmjjjjaaPackLawB
namespace Go.Proofs.Ytnigieebmjjjjaa
open Go.RowKit

theorem below_next {w a b : World} (h : Below w.heap.size w a) (hb : Below a.heap.size a b) : Below w.heap.size w b := h.trans (hb.mono h.size)
theorem RB.later {w W : World} {A : Option Addr} {n : Nat} {xs : List Int} (h : RB w w.heap.size A n xs) (hb : Below w.heap.size w W) : RB W W.heap.size A n xs := ⟨(h.1.below hb).more hb.size, h.2⟩
theorem vBig_any (A : Option Addr) (n c : Nat) (w : World) : Calls Try.prog 36 #[.slice A n c] w fun e w' => e = .returned (.bool (decide (65536 < n))) ∧ w = w' := by
  by_cases h : 65536 < n
  · have h1 : (65536 : Int) < (n : Int) := by omega
    go_enter Try.func36, Try.ntmps36
    go_wp2_with fail
    go_ret
    exact ⟨by simp [h], rfl⟩
  · have h1 : ¬ (65536 : Int) < (n : Int) := by omega
    go_enter Try.func36, Try.ntmps36
    go_wp2_with fail
    go_ret
    exact ⟨by simp [h], rfl⟩
/-- a new cursor -/
theorem Cur.new {w : World} {A : Option Addr} {n : Nat} {xs : List Int} (c : Nat) (h : RB w w.heap.size A n xs) : Cur (w.alloc (.cells #[.slice A n c, .int .i64 0, .int .u64 0] 45)) w.heap.size A n c xs 0 :=
  ⟨⟨h.1.below ((Below.refl _ w).alloc (Nat.le_refl _) _), h.2⟩, 0, 0, Nat.le_refl _, Whl.here w _ _⟩
/-- numbers are drawn; a number is drawn -/
def RetDI (w : World) (e : Ending) (w' : World) : Prop :=
  ∃ (A' : Option Addr) (n' c' : Nat) (ys : List Int), e = .returned (.slice A' n' c') ∧ OwnI w' w.heap.size A' n' c' ys ∧ n' ≤ 200 ∧ (∀ y ∈ ys, -1000000 ≤ y ∧ y ≤ 1000000) ∧ Below w.heap.size w w'
def RetDN (w : World) (e : Ending) (w' : World) : Prop :=
  ∃ x : Int, e = .returned (.int .i64 x) ∧ (-1000000 ≤ x ∧ x ≤ 1000000) ∧ Below w.heap.size w w'
theorem ownI_cut {w : World} {lo g n c : Nat} {xs : List Int} (h : OwnI w lo (some ⟨g, 0, none⟩) n c xs) {k : Nat} (hk : k ≤ n) : OwnI w lo (some ⟨g, 0, none⟩) k c (xs.take k) := by
  refine ⟨?_, ?_⟩
  · rw [cI_length, List.length_take, h.len, Nat.min_eq_left hk]; omega
  · rcases h.2 with ⟨hv, h0⟩ | ⟨g', cap, cur, hv, hg, hh, hle, hm, hs, ht⟩
    · cases hv
    · injection hv with h1 h2 h3
      refine .inr ⟨g', cap, cur, by rw [h1, h3], hg, hh, by omega, hm, hs, ?_⟩
      unfold cI
      rw [List.map_take, show xs.map (Value.int .i64) = cI xs from rfl, ← ht, List.take_take]
      congr 1
      omega

set_option maxHeartbeats 400000 in
theorem l4DiffsW_any (A : Option Addr) (n c L : Nat) (xs : List Int) (w : World) (hr : RI w w.heap.size A n xs) (hs : ∀ x ∈ xs, -1000000 ≤ x ∧ x ≤ 1000000) (hn : n ≤ 1048576) :
    Calls Try.prog 47 #[.slice A n c] w (RetI w (diffI xs)) := by
  have HR := hide hr
  have HS := hide hs
  clear hr hs
  go_enter Try.func47, Try.ntmps47
  go_wp2
  go_loopw [3, 4, 5] (fun v l i wr => ∃ (k : Nat) (A' : Option Addr) (c' : Nat) (last : Int), k ≤ n ∧ i = .int .i64 k ∧ v = .slice A' k c' ∧ l = .int .i64 last ∧ -1000000 ≤ last ∧ last ≤ 1000000 ∧ Hid (last = if k = 0 then 0 else xs.getD (k - 1) 0) ∧ Hid (OwnI wr w.heap.size A' k c' (diffK xs k)) ∧ Hid (Below w.heap.size w wr)) (fun _ _ i _ => n - (intOf i).toNat)
  case atStart => exact ⟨0, _, _, 0, Nat.zero_le _, rfl, rfl, rfl, by omega, by omega, by simp [Hid], OwnI.empty _ (Nat.le_refl _), (Below.refl _ _).alloc (Nat.le_refl _) _⟩
  case round =>
    obtain ⟨k, A', c', last, hk, rfl, rfl, rfl, h0, h1, hE, hO, hB⟩ := hrel
    by_cases hlt : k < n
    · obtain ⟨ad, x, rfl, hbl, hx, hc⟩ := ((unhide HR).below (unhide hB)).get hlt
      obtain ⟨hx1, hx2⟩ := unhide HS x (List.mem_of_getElem? (unhide hx))
      have hbk : (ad.add k).block < w.heap.size := by rw [block_of_add]; exact hbl
      have HX := hide (diffK_step xs k x last (unhide hx) (unhide hE))
      have HE2 := hide (last_step xs k x (unhide hx))
      clear hx hE
      go_wp2_with (at_builtin; refine append_int _ rfl _ _ rfl w A' k c' (diffK xs k) rfl ((unhide hO).alloc _) ((unhide hB).alloc (unhide hB).size _) _ (x - last) rfl (cellNew _ _ _) (by omega) ?_; intro A2 c2 w2 hO2 hB2; have hc2 := (hB2.cell hbk).trans (((unhide hB).cell hbk).symm.trans hc))
      rw [← unhide HX] at hO2
      have HO2 := hide hO2
      have HB2 := hide hB2
      clear hO2 hB2 hO hB HX hc
      go_wp2
      go_roundw
      case rel => exact ⟨k + 1, A2, c2, x, by omega, by go_num, rfl, rfl, hx1, hx2, HE2, HO2, HB2⟩
      case measure => simp [intOf]; omega
    · have e : k = n := by omega
      subst e
      go_wp2
      go_ret
      refine ⟨A', k, c', rfl, ?_, unhide hB⟩
      unfold diffI
      rw [(unhide HR).len]
      exact unhide hO


theorem diffI_small (xs : List Int) (h : ∀ x ∈ xs, -400000 ≤ x ∧ x ≤ 400000) {k : Nat} {d : Int} (hd : (diffI xs)[k]? = some d) : -1000000 ≤ d ∧ d ≤ 1000000 := by
  have g : ∀ j, -400000 ≤ xs.getD j 0 ∧ xs.getD j 0 ≤ 400000 := by
    intro j
    rw [List.getD_eq_getElem?_getD]
    rcases hj : xs[j]? with _ | x
    · simp
    · exact h x (List.mem_of_getElem? hj)
  unfold diffI diffK at hd
  rw [List.getElem?_map] at hd
  rcases hr : (List.range xs.length)[k]? with _ | i
  · rw [hr] at hd; cases hd
  · rw [hr] at hd
    simp at hd
    have h1 := g i
    have h2 := g (i - 1)
    unfold dAt at hd
    split at hd <;> omega
theorem difference_any (g n c b : Nat) (A : Option Addr) (xs : List Int) (w : World) (h : Cur w g A n c xs b) (hn : n ≤ 1048576) (hb : b ≤ 1000000) :
    Calls Try.prog 67 #[.pointer (some ⟨g, 0, none⟩)] w (RetC w g A n c xs (b + 2) fun x => -1000000 ≤ x ∧ x ≤ 1000000) := by
  have HC := hide h
  clear h
  go_enter Try.func67, Try.ntmps67
  go_wp2_with fail
  refine (among_lit g n c b _ A xs w rfl [0, 1, -1, 95, 96, -96, -97, 4191, 4192, -4192, -4193, 200000, -200000, 200001, -200001] 15 _ (fun x => -1000000 ≤ x ∧ x ≤ 1000000) rfl rfl (by omega) (by omega) (by simp) (unhide HC) hn (by omega)).mono ?_
  rintro e w1 ⟨x, rfl, ⟨x0, x1⟩, hC, hg⟩
  go_wp2_with fail
  go_ret
  exact ⟨x, rfl, ⟨x0, x1⟩, hC, hg⟩
theorem drawDifferences_any (A : Option Addr) (n c : Nat) (xs : List Int) (w : World) (hr : RB w w.heap.size A n xs) (hn : n ≤ 65536) :
    Calls Try.prog 42 #[.slice A n c] w (RetDI w) := by
  have HC := hide (Cur.new c hr)
  clear hr
  go_enter Try.func42, Try.ntmps42
  go_wp2_with fail
  refine (samples_any w.heap.size n c 0 A xs _ (unhide HC) (by omega) (by omega)).mono ?_
  rintro e w1 ⟨A', n', c', ys, rfl, hO, h2, hy, hC, hg⟩
  have HB := hide (below_cur ((Below.refl _ w).alloc (Nat.le_refl _) _) hg (Nat.le_refl _))
  have HO := hide (OwnI.less hO (lo' := w.heap.size) (by simp))
  clear hO hC hg
  go_wp2_with fail
  go_ret
  exact ⟨A', n', c', ys, rfl, unhide HO, by omega, fun y h9 => by have := hy y h9; omega, unhide HB⟩
theorem drawFoldedOf_any (A : Option Addr) (n c : Nat) (xs : List Int) (w : World) (hr : RB w w.heap.size A n xs) (hn : n ≤ 65536) :
    Calls Try.prog 43 #[.slice A n c] w (RetDN w) := by
  have HC := hide (Cur.new c hr)
  clear hr
  go_enter Try.func43, Try.ntmps43
  go_wp2_with fail
  refine (difference_any w.heap.size n c 0 A xs _ (unhide HC) (by omega) (by omega)).mono ?_
  rintro e w1 ⟨x, rfl, hx, hC, hg⟩
  have HB := hide (below_cur ((Below.refl _ w).alloc (Nat.le_refl _) _) hg (Nat.le_refl _))
  clear hC hg
  go_wp2_with fail
  go_ret
  exact ⟨x, rfl, hx, unhide HB⟩

theorem drawWidthCounts_any (A : Option Addr) (n c : Nat) (xs : List Int) (w : World) (hr : RB w w.heap.size A n xs) (hn : n ≤ 65536) :
    Calls Try.prog 45 #[.slice A n c] w (RetDI w) := by
  have HP := hide (drawDifferences_any A n c xs w hr hn)
  clear hr
  go_enter Try.func45, Try.ntmps45
  go_wp2_with fail
  refine (unhide HP).mono ?_
  rintro e w1 ⟨A', n', c', ts, rfl, hO, h2, hy, hb⟩
  go_wp2_with fail
  go_ret
  exact ⟨A', n', c', ts, rfl, hO, h2, hy, hb⟩

theorem drawPackSamples_any (A : Option Addr) (n c : Nat) (xs : List Int) (w : World) (hr : RB w w.heap.size A n xs) (hn : n ≤ 65536) :
    Calls Try.prog 37 #[.slice A n c] w (RetDI w) := by
  have HP := hide (drawDifferences_any A n c xs w hr hn)
  clear hr
  go_enter Try.func37, Try.ntmps37
  go_wp2_with fail
  refine (unhide HP).mono ?_
  rintro e w1 ⟨A', n', c', ts, rfl, hO, h2, hy, hb⟩
  go_wp2_with fail
  go_ret
  exact ⟨A', n', c', ts, rfl, hO, h2, hy, hb⟩

set_option maxHeartbeats 1000000 in
theorem drawFromDifferences_any (A : Option Addr) (n c : Nat) (xs : List Int) (w : World) (hr : RB w w.heap.size A n xs) (hn : n ≤ 65536) :
    Calls Try.prog 44 #[.slice A n c] w (RetDI w) := by
  have HC := hide (Cur.new c hr)
  clear hr
  go_enter Try.func44, Try.ntmps44
  go_wp2_with fail
  refine (samples_any w.heap.size n c 0 A xs _ (unhide HC) (by omega) (by omega)).mono ?_
  rintro e w1 ⟨A', n', c', ys, rfl, hO, h2, hy, hC, hg⟩
  have HB := hide (below_cur ((Below.refl _ w).alloc (Nat.le_refl _) _) hg (Nat.le_refl _))
  have hw1 : w.heap.size + 1 ≤ w1.heap.size := by have := hg.size; simpa using this
  have HC1 := hide hC
  have HP := hide (l4DiffsW_any A' n' c' w.heap.size ys w1 hO.ri (fun y h9 => by have := hy y h9; omega) (by omega))
  have HYL := hide hO.len
  clear hO hC hg HC
  go_wp2_with fail
  refine (unhide HP).mono ?_
  rintro e w2 ⟨A2, n2, c2, rfl, hO, hb⟩
  have hn2 : n2 ≤ 30 := by have := hO.len; rw [diffI_len] at this; have := unhide HYL; omega
  have HD : Hid (∀ y ∈ diffI ys, -1000000 ≤ y ∧ y ≤ 1000000) := fun y hy2 => by
    obtain ⟨k, hk⟩ := List.mem_iff_getElem?.1 hy2
    exact diffI_small ys hy hk
  have HB2 := hide (below_next (unhide HB) hb)
  have HC2 := hide ((unhide HC1).kept hb)
  have hw2 := Nat.le_trans hw1 hb.size
  have HO2 := hide (OwnI.less hO (lo' := w.heap.size + 1) hw1)
  clear hO hb HB HC1 HP hy
  generalize diffI ys = ds at *
  go_wp2_with fail
  refine (one_any w.heap.size n c _ A xs 6 w2 (unhide HC2) (by omega) (by omega) (by omega) (by omega)).mono ?_
  rintro e w3 ⟨o, rfl, hC, hg⟩
  have HB3 := hide (below_cur (unhide HB2) hg (Nat.le_refl _))
  have HC3 := hide hC
  have HO3 := hide ((unhide HO2).gr hg (by omega))
  have hw3 := Nat.le_trans hw2 hg.size
  clear hC hg HB2 HC2 HO2
  rcases o with _ | _
  · go_wp2_with fail
    go_ret
    exact ⟨A2, n2, c2, ds, rfl, OwnI.less (unhide HO3) (by omega), by omega, unhide HD, unhide HB3⟩
  · go_wp2_with fail
    refine (difference_any w.heap.size n c _ A xs w3 (unhide HC3) (by omega) (by omega)).mono ?_
    rintro e w4 ⟨x, rfl, ⟨x0, x1⟩, hC, hg⟩
    have HB4 := hide (below_cur (unhide HB3) hg (Nat.le_refl _))
    have HO4 := hide ((unhide HO3).gr hg (by omega))
    have hls : w.heap.size + 1 ≤ w4.heap.size := Nat.le_trans hw3 hg.size
    clear hC hg HB3 HC3 HO3
    go_wp2_with (at_builtin; refine append_int2 _ rfl _ _ rfl (w.heap.size + 1) A2 n2 c2 ds rfl ((unhide HO4).alloc _) ?_ _ x rfl (cellNew _ _ _) ?_ ?_; (simp; omega); omega; intro A9 c9 w9 hO9 hg9)
    have HO9 := hide hO9
    have HB9 := hide (((unhide HB4).alloc (unhide HB4).size _).grown hg9 (by have := (unhide HB4).size; simp; omega) fun r e => by have := (OwnI.lt (unhide HO4) e).1; omega)
    clear hO9 hg9
    go_wp2_with fail
    go_ret
    refine ⟨A9, n2 + 1, c9, _, rfl, OwnI.less (unhide HO9) (by omega), by omega, fun y hy => ?_, unhide HB9⟩
    rcases List.mem_append.1 hy with h | h
    · exact unhide HD y h
    · obtain rfl : y = x := by simpa using h
      omega

theorem vInts_any (A B : Option Addr) (n m c d L M : Nat) (xs ys : List Int) (w : World) (hx : RI w L A n xs) (hy : RI w M B m ys) (hn : n ≤ 9223372036854775807) (hm : m ≤ 9223372036854775807) :
    Calls Try.prog 38 #[.slice A n c, .slice B m d] w fun e w' => e = .returned (.bool (xs == ys)) ∧ Below w.heap.size w w' := by
  have hlx := hx.len
  have hly := hy.len
  by_cases hnm : n = m
  · subst hnm
    have HX := hide hx; have HY := hide hy; have HLX := hide hlx; have HLY := hide hly; clear hx hy hlx hly
    go_enter Try.func38, Try.ntmps38
    go_wp2
    go_loopw [5] (fun i wr => ∃ k : Nat, k ≤ n ∧ i = .int .i64 k ∧ Hid (xs.take k = ys.take k) ∧ Hid (∃ a, wr = w.drewN a)) (fun i _ => n - (intOf i).toNat)
    case atStart => exact ⟨0, Nat.zero_le _, rfl, rfl, 0, rfl⟩
    case round =>
      obtain ⟨k, hk, rfl, hE, a, rfl⟩ := hrel
      by_cases hlt : k < n
      · obtain ⟨ad, x, rfl, _, hx, hc⟩ := (unhide HX).get hlt
        obtain ⟨ae, y, rfl, _, hy, hd⟩ := (unhide HY).get hlt
        by_cases hv : x = y
        · subst hv
          have ht : (x != x) = false := by simp
          have HE2 : Hid (xs.take (k + 1) = ys.take (k + 1)) := by
            unfold Hid
            rw [List.take_add_one, List.take_add_one, unhide hE, unhide hx, unhide hy]
          clear hE hx hy
          go_wp2
          go_quiet (fail)
          go_wp2
          go_roundw
          case rel => exact ⟨k + 1, by omega, by go_num, HE2, _, rfl⟩
          case measure => simp [intOf]; omega
        · have ht : (x != y) = true := by simpa using hv
          have HV : Hid (xs ≠ ys) := by
            intro e
            subst e
            have := (unhide hx).symm.trans (unhide hy)
            exact hv (by simpa using this)
          clear hx hy hE hv
          go_wp2
          go_quiet (fail)
          go_wp2
          go_ret
          exact ⟨by simpa using unhide HV, below_drewN (below_drewN (Below.refl _ _) _) _⟩
      · have e : k = n := by omega
        subst e
        have HV : Hid (xs = ys) := by
          have := unhide hE
          rwa [List.take_of_length_le (by have := unhide HLX; omega), List.take_of_length_le (by have := unhide HLY; omega)] at this
        go_wp2
        go_ret
        exact ⟨by simpa using unhide HV, below_drewN (Below.refl _ _) _⟩
  · have HV : Hid (xs ≠ ys) := by
      intro e
      subst e
      omega
    have ht : ((n : Int) != (m : Int)) = true := by simp; omega
    clear hx hy hlx hly
    go_enter Try.func38, Try.ntmps38
    go_wp2
    go_ret
    exact ⟨by simpa using unhide HV, Below.refl _ _⟩
end Go.Proofs.Ytnigieebmjjjjaa
