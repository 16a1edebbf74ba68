/- The walks of chapter 6: clipped samples, every nth sample, differences to samples before, a bound of weighted sums, turning points: the program's and the reference's. -/
import Derived.Test.YtpklnefmjlhlnaaProg
import Derived.Test.YtpklnefmjlhlnaaPreds
namespace Go.Proofs.Ytpklnefmjlhlnaa
open Go.RowKit

/-- What is asked of a function value that tells a number for each place below n. -/
def TellI (g : Nat) (lb : Array Value) (f : Nat → Int) (n : Nat) (w : World) : Prop :=
  ∀ (W : World) (i : Nat), i < n → Below w.heap.size w W → Calls Try.prog g (#[.int .i64 i] ++ lb) W fun e w' => e = .returned (.int .i64 (f i)) ∧ Below W.heap.size W w'

theorem TellI.later {g : Nat} {lb : Array Value} {f : Nat → Int} {n : Nat} {w w1 : World} (h : TellI g lb f n w) (hb : Below w.heap.size w w1) : TellI g lb f n w1 :=
  fun W i hi hW => h W i hi (hb.trans (hW.mono hb.size))

set_option maxHeartbeats 400000 in
theorem each_any (g : Nat) (lb : Array Value) (f : Nat → Int) (eg : ∀ args w, (callFunc g args).run Try.prog w = .ok (.enter g args) w) (A : Option Addr) (n c : Nat) (w : World)
    (hp : TellI g lb f n w) (hn : n ≤ 1048576) :
    Calls Try.prog 27 #[.slice A n c, .func (.func g) #[] lb] w (RetI w ((List.range n).map f)) := by
  have HP := hide hp; clear hp
  go_enter Try.func27, Try.ntmps27
  go_wp2
  go_loopw [5, 10] (fun v i wr => ∃ (k : Nat) (A' : Option Addr) (c' : Nat), k ≤ n ∧ i = .int .i64 k ∧ v = .slice A' k c' ∧ Hid (OwnI wr w.heap.size A' k c' ((List.range k).map f)) ∧ Hid (Below w.heap.size w wr)) (fun _ i _ => n - (intOf i).toNat)
  case atStart => exact ⟨0, _, _, Nat.zero_le _, rfl, rfl, OwnI.empty _ (Nat.le_refl _), (Below.refl _ _).alloc (Nat.le_refl _) _⟩
  case round =>
    obtain ⟨k, A', c', hk, rfl, rfl, hO, hB⟩ := hrel
    by_cases hlt : k < n
    · have hcall := (unhide HP) wr k hlt (unhide hB)
      generalize hy : f k = y at hcall
      have HY := hide hy; clear hy
      go_wp2_with (first
        | (go_at_fn g; refine hcall.mono ?_; rintro e w1 ⟨rfl, hb1⟩; have HB1 := hide hb1; clear hb1)
        | (at_builtin; refine append_int _ rfl _ _ rfl w A' k c' ((List.range k).map f) rfl ((OwnI.below (unhide hO) (unhide HB1) (Nat.le_refl _)).alloc _) (((unhide hB).trans ((unhide HB1).mono (unhide hB).size)).alloc (Nat.le_trans (unhide hB).size (unhide HB1).size) _) _ y rfl (by simp) (by omega) ?_; intro A2 c2 w2 hO2 hB2))
      have HO2 : Hid (OwnI w2 w.heap.size A2 (k + 1) c2 ((List.range (k + 1)).map f)) := by
        rw [List.range_succ, List.map_append, List.map_singleton, unhide HY]
        exact hO2
      have HB2 := hide hB2
      clear hO2 hB2 hO hB HB1 HY
      go_wp2
      go_roundw
      case rel => exact ⟨k + 1, A2, c2, by omega, by go_num, rfl, HO2, HB2⟩
      case measure => simp [intOf]; omega
    · have e : k = n := by omega
      subst e
      go_wp2
      go_ret
      exact ⟨A', k, c', rfl, unhide hO, unhide hB⟩

/-- valid samples and a number within bounds -/
def askB (xs : List Int) (n lo hi : Int) : Bool := smpB xs && inB n lo hi

theorem l6Asked_any (A : Option Addr) (n c L : Nat) (xs : List Int) (q lo hi : Int) (w : World) (hr : RI w L A n xs) (hn : n ≤ 1048576) :
    Calls Try.prog 22 #[.slice A n c, .int .i64 q, .int .i64 lo, .int .i64 hi] w fun e w' => e = .returned (.bool (askB xs q lo hi)) ∧ w = w' := by
  have C := fun W h => l2Samples_any A n c L xs W h (by omega)
  have HC := hide C
  have HR := hide hr
  clear C hr
  unfold askB
  cases h1 : smpB xs <;> cases h2 : inB q lo hi
  all_goals
    go_enter Try.func22, Try.ntmps22
    go_wp2_with (first
      | (go_at_call 34; refine (unhide HC _ (unhide HR)).mono ?_; rintro e w' ⟨rfl, rfl⟩)
      | (go_at_call 35; refine (l1In_any _ _ _ _).mono ?_; rintro e w' ⟨rfl, rfl⟩))
    go_ret
    exact ⟨rfl, rfl⟩

theorem range_map_get (xs : List Int) (f : Int → Int) : (List.range xs.length).map (fun i => f (xs.getD i 0)) = xs.map f := by
  apply List.ext_getElem
  · simp
  · intro i h1 h2
    simp at h1
    simp [h1]

/-! ### Clipped -/
/-- a number, kept from -lv to lv -/
def clipI (lv x : Int) : Int := max (-lv) (min lv x)

set_option maxHeartbeats 400000 in
theorem Clipped1_tell (lv : Int) (A : Option Addr) (n c : Nat) (xs : List Int) (w : World) (W0 : World) (hW0 : W0 = (w.alloc (.cells #[.slice A n c] 22)).alloc (.cells #[.int .i64 lv] 3)) (hr : RI w w.heap.size A n xs) (h0 : 0 ≤ lv) (h1 : lv ≤ 100000) :
    TellI 28 #[.pointer (some ⟨w.heap.size + 1, 0, none⟩), .pointer (some ⟨w.heap.size, 0, none⟩)] (fun i => clipI lv (xs.getD i 0)) n W0 := by
  subst hW0
  intro W i hi hb
  have hz := hb.size
  have hc1 : W.cell? ⟨w.heap.size, 0, none⟩ = some (.slice A n c) := by
    rw [hb.cell (p := ⟨w.heap.size, 0, none⟩) (by simp; omega)]
    simp
  have hc2 : W.cell? ⟨w.heap.size + 1, 0, none⟩ = some (.int .i64 lv) := by
    rw [hb.cell (p := ⟨w.heap.size + 1, 0, none⟩) (by simp)]
    simp
  have hB : Below w.heap.size w W := (((Below.refl _ w).alloc (Nat.le_refl _) _).alloc (by simp) _).trans (hb.mono (by simp; omega))
  obtain ⟨ad, x, rfl, _, hx, hc⟩ := (hr.below hB).get hi
  have e : xs.getD i 0 = x := by rw [List.getD_eq_getElem?_getD, unhide hx]; rfl
  show Calls _ _ #[.int .i64 i, .pointer (some ⟨w.heap.size + 1, 0, none⟩), .pointer (some ⟨w.heap.size, 0, none⟩)] W (fun e w' => e = .returned (.int .i64 (clipI lv (xs.getD i 0))) ∧ Below W.heap.size W w')
  rw [e]
  clear e hx hb hB hr hz
  have hlt : (i : Int) < (n : Int) := by omega
  go_enter Try.func28, Try.ntmps28
  go_wp2
  go_quiet (fail)
  go_wp2
  all_goals
    go_ret
    exact ⟨ret_int (by unfold clipI; first | omega | (split at * <;> omega)), below_drewN (Below.refl _ _) _⟩

set_option maxHeartbeats 1000000 in
theorem implClipped_any (A : Option Addr) (n c : Nat) (xs : List Int) (lv : Int) (w : World) (hr : RI w w.heap.size A n xs) (hn : n ≤ 1048576) :
    Calls Try.prog 10 #[.slice A n c, .int .i64 lv] w (RetIB w (if askB xs lv 0 100000 then xs.map (clipI lv) else []) (askB xs lv 0 100000)) := by
  have T := fun h0 h1 => Clipped1_tell lv A n c xs w _ rfl hr h0 h1
  have R0 := (((hr.alloc (Nat.le_refl _) (.cells #[.slice A n c] 22)).more (by simp : w.heap.size ≤ (w.alloc (.cells #[.slice A n c] 22)).heap.size)).alloc (Nat.le_refl _) (.cells #[.int .i64 lv] 3)).more (by simp : (w.alloc (.cells #[.slice A n c] 22)).heap.size ≤ ((w.alloc (.cells #[.slice A n c] 22)).alloc (.cells #[.int .i64 lv] 3)).heap.size)
  have HS := hide (areSamples_any A n c xs _ R0 (by omega))
  have B0 : Hid (Below w.heap.size w ((w.alloc (.cells #[.slice A n c] 22)).alloc (.cells #[.int .i64 lv] 3))) := ((Below.refl _ w).alloc (Nat.le_refl _) _).alloc (by simp) _
  have HT := hide T
  have hl := hr.len
  have HE := hide (range_map_get xs (clipI lv))
  have HL := hide hl
  clear T R0 hr hl
  unfold askB
  cases h1 : smpB xs
  · go_enter Try.func10, Try.ntmps10
    go_wp2_with (go_at_call 25; refine (unhide HS).mono ?_; rintro e w1 ⟨rfl, hb⟩; obtain ⟨hcc, _⟩ := bcell hb; have HB := hide hb; clear hb)
    go_ret2
    exact ⟨none, 0, 0, rfl, OwnI.nil _ _, (unhide B0).trans ((unhide HB).mono (by simp; omega))⟩
  · cases h2 : inB lv 0 100000
    · go_enter Try.func10, Try.ntmps10
      go_wp2_with (first
        | (go_at_call 25; refine (unhide HS).mono ?_; rintro e w1 ⟨rfl, hb⟩; obtain ⟨hcc, _⟩ := bcell hb; have HB := hide hb; clear hb)
        | (go_at_call 26; refine (in_any _ _ _ _).mono ?_; rintro e w2 ⟨rfl, rfl⟩))
      go_ret2
      exact ⟨none, 0, 0, rfl, OwnI.nil _ _, (unhide B0).trans ((unhide HB).mono (by simp; omega))⟩
    · obtain ⟨h3, h4⟩ := inB_iff.1 h2
      have HT2 := hide (unhide HT h3 h4)
      go_enter Try.func10, Try.ntmps10
      go_wp2_with (first
        | (go_at_call 25; refine (unhide HS).mono ?_; rintro e w1 ⟨rfl, hb⟩; obtain ⟨hcc, _⟩ := bcell hb; have HB := hide hb; clear hb)
        | (go_at_call 26; refine (in_any _ _ _ _).mono ?_; rintro e w2 ⟨rfl, rfl⟩)
        | (go_at_call 27; refine (each_any 28 _ (fun i => clipI lv (xs.getD i 0)) (enters_of Try.func28 (by kernel_rfl) rfl) A n c _ (TellI.later (unhide HT2) (unhide HB)) hn).mono ?_; rintro e w3 ⟨A3, n3, c3, rfl, hO3, hB3⟩; have HO := hide hO3; have HB3 := hide hB3; clear hO3 hB3))
      go_ret2
      have hz : w.heap.size ≤ w1.heap.size := Nat.le_trans (unhide B0).size (unhide HB).size
      have e : (List.range n).map (fun i => clipI lv (xs.getD i 0)) = xs.map (clipI lv) := by rw [← unhide HE, unhide HL]
      rw [e] at HO
      exact ⟨A3, n3, c3, rfl, (unhide HO).less hz, ((unhide B0).trans ((unhide HB).mono (by simp; omega))).trans ((unhide HB3).mono hz)⟩
end Go.Proofs.Ytpklnefmjlhlnaa
