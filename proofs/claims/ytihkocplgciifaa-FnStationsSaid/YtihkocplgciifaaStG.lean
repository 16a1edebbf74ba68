/- Chapter 3, the walks: the band that all stations see: the program's and the reference's. (By gen_stG.py.) -/
import Derived.Test.YtihkocplgciifaaProg
import Derived.Test.YtihkocplgciifaaStS
import Derived.Test.YtihkocplgciifaaDif
namespace Go.Proofs.Ytihkocplgciifaa
open Go.RowKit

def bLo (xs : List St) : Nat → Int
  | 0 => 1
  | k + 1 => max (bLo xs k) (stAt xs k).lw
def bHi (xs : List St) : Nat → Int
  | 0 => 5000
  | k + 1 => min (bHi xs k) (stAt xs k).hg
theorem bLo_step {xs : List St} {k : Nat} {s : St} (h : xs[k]? = some s) : bLo xs (k + 1) = max (bLo xs k) s.lw := by rw [bLo, stAt_of h]
theorem bHi_step {xs : List St} {k : Nat} {s : St} (h : xs[k]? = some s) : bHi xs (k + 1) = min (bHi xs k) s.hg := by rw [bHi, stAt_of h]
/-- the common band, whether there is one -/
def bandR (xs : List St) : Int × Int × Bool := if (stsB xs && !decide (xs.length = 0) && decide (bLo xs xs.length ≤ bHi xs xs.length)) = true then (bLo xs xs.length, bHi xs xs.length, true) else (0, 0, false)

set_option maxHeartbeats 2000000 in
set_option maxRecDepth 100000 in
theorem implBand_any (A : Option Addr) (n c : Nat) (xs : List St) (w : World) (hr : RS w w.heap.size A n xs) (hn : n ≤ 2097152) (hs : ∀ x ∈ xs, x.nm.size ≤ 9223372036854775807) :
    Calls Try.prog 33 #[.slice A n c] w (RetNNB w (bandR xs).1 (bandR xs).2.1 (bandR xs).2.2) := by
  have HG := hide (fun (W : World) (hb : Below w.heap.size w W) => implAre_any A n c xs W (((unhide (hide hr)).below hb).more hb.size) (by omega) hs)
  have HR := hide hr
  have HL := hide hr.len
  clear hr
  go_enter Try.func33, Try.ntmps33
  go_wp2
  go_loopw [5, 6, 11] (fun a b i wr => ∃ (k : Nat) (lo hi : Int), k ≤ n ∧ i = .int .i64 k ∧ a = .int .i64 lo ∧ b = .int .i64 hi ∧ Hid (lo = bLo xs k) ∧ Hid (hi = bHi xs k) ∧ Hid (Below w.heap.size w wr)) (fun _ _ i _ => n - (intOf i).toNat)
  case atStart => exact ⟨0, 1, 5000, Nat.zero_le _, rfl, rfl, rfl, rfl, rfl, Below.refl _ _⟩
  case round =>
    obtain ⟨k, lo, hi, hk, rfl, rfl, rfl, hLo, hHi, hB⟩ := hrel
    by_cases hlt : k < n
    · obtain ⟨ad, s, rfl, hbx, hx, hrow⟩ := ((unhide HR).below (unhide hB)).get hlt
      obtain ⟨c0, c1, c2, c3, c4, c5, c6, c7⟩ := hrow
      have hL2 : Hid (max lo s.lw = bLo xs (k + 1)) := by unfold Hid; rw [bLo_step (unhide hx), ← unhide hLo]
      have hH2 : Hid (min hi s.hg = bHi xs (k + 1)) := by unfold Hid; rw [bHi_step (unhide hx), ← unhide hHi]
      have HB2 : Hid (Below w.heap.size w (wr.alloc (.cells #[.int .i64 s.id, .string s.nm, .int .i64 s.x, .int .i64 s.y, .int .i64 s.gn, .int .i64 s.lw, .int .i64 s.hg, .int .i64 s.ut] 26))) := (unhide hB).alloc (unhide hB).size _
      obtain ⟨lw, elw⟩ : ∃ z, s.lw = z := ⟨_, rfl⟩
      obtain ⟨hg, ehg⟩ : ∃ z, s.hg = z := ⟨_, rfl⟩
      have l1 : (k : Int) < (n : Int) := by omega
      have l2 : (0 : Int) ≤ (k : Int) := by omega
      clear hx hLo hHi elw ehg lw hg
      by_cases q1 : lo < s.lw <;> by_cases q2 : s.hg < hi
      all_goals
        go_wp2_with fail
        go_quiet (fail)
        go_wp2_with fail
        go_roundw
        case rel => exact ⟨k + 1, _, _, by omega, by go_num, rfl, rfl, by unfold Hid; rw [← unhide hL2]; omega, by unfold Hid; rw [← unhide hH2]; omega, below_drewN (unhide HB2) _⟩
        case measure => simp [intOf]; omega
    · obtain rfl : k = n := by omega
      rcases h1 : stsB xs with _ | _
      · have HRR : Hid (bandR xs = (0, 0, false)) := by unfold Hid bandR; rw [h1]; rfl
        rw [h1] at HG
        go_wp2_with fail
        refine (unhide HG _ (unhide hB)).mono ?_
        rintro e w1 ⟨rfl, hb⟩
        have HB1 := hide (below_next (unhide hB) hb)
        clear hb
        go_wp2_with fail
        go_ret3
        exact ⟨by rw [unhide HRR]; rfl, unhide HB1⟩
      · rw [h1] at HG
        rcases Nat.eq_zero_or_pos k with h0 | h0
        · subst h0
          have HRR : Hid (bandR xs = (0, 0, false)) := by unfold Hid bandR; rw [h1, unhide HL]; rfl
          go_wp2_with fail
          refine (unhide HG _ (unhide hB)).mono ?_
          rintro e w1 ⟨rfl, hb⟩
          have HB1 := hide (below_next (unhide hB) hb)
          clear hb
          go_wp2_with fail
          go_ret3
          exact ⟨by rw [unhide HRR]; rfl, unhide HB1⟩
        · have hz : ((k : Int) == 0) = false := by simp; omega
          have hz2 : ¬ k = 0 := by omega
          rcases h3 : decide (lo ≤ hi) with _ | _
          · have h3' : decide (hi < lo) = true := by have := of_decide_eq_false h3; exact decide_eq_true (by omega)
            have h3n : hi < lo := of_decide_eq_true h3'
            have HRR : Hid (bandR xs = (0, 0, false)) := by unfold Hid bandR; rw [h1, unhide HL, ← unhide hLo, ← unhide hHi, h3]; simp
            go_wp2_with fail
            refine (unhide HG _ (unhide hB)).mono ?_
            rintro e w1 ⟨rfl, hb⟩
            have HB1 := hide (below_next (unhide hB) hb)
            clear hb
            go_wp2_with fail
            go_ret3
            exact ⟨by rw [unhide HRR]; rfl, unhide HB1⟩
          · have h3' : decide (hi < lo) = false := by have := of_decide_eq_true h3; exact decide_eq_false (by omega)
            have h3n : ¬ hi < lo := of_decide_eq_false h3'
            have HRR : Hid (bandR xs = (lo, hi, true)) := by unfold Hid bandR; rw [h1, unhide HL, ← unhide hLo, ← unhide hHi, h3, decide_eq_false hz2]; rfl
            go_wp2_with fail
            refine (unhide HG _ (unhide hB)).mono ?_
            rintro e w1 ⟨rfl, hb⟩
            have HB1 := hide (below_next (unhide hB) hb)
            clear hb
            go_wp2_with fail
            go_ret3
            exact ⟨by rw [unhide HRR]; rfl, unhide HB1⟩

set_option maxHeartbeats 2000000 in
set_option maxRecDepth 100000 in
theorem specBand_any (A : Option Addr) (n c : Nat) (xs : List St) (w : World) (hr : RS w w.heap.size A n xs) (hn : n ≤ 2097152) (hs : ∀ x ∈ xs, x.nm.size ≤ 9223372036854775807) :
    Calls Try.prog 32 #[.slice A n c] w (RetNNB w (bandR xs).1 (bandR xs).2.1 (bandR xs).2.2) := by
  have HG := hide (l3Good_any A n c xs w hr (by omega) hs)
  have HR := hide hr
  have HL := hide hr.len
  clear hr
  rcases h1 : stsB xs with _ | _
  · have HRR : Hid (bandR xs = (0, 0, false)) := by unfold Hid bandR; rw [h1]; rfl
    rw [h1] at HG
    go_enter Try.func32, Try.ntmps32
    go_wp2_with fail
    refine (unhide HG).mono ?_
    rintro e w1 ⟨rfl, hb⟩
    have HB1 := hide hb
    clear hb
    go_wp2_with fail
    go_ret3
    exact ⟨by rw [unhide HRR]; rfl, unhide HB1⟩
  · rw [h1] at HG
    rcases Nat.eq_zero_or_pos n with h0 | h0
    · subst h0
      have HRR : Hid (bandR xs = (0, 0, false)) := by unfold Hid bandR; rw [h1, unhide HL]; rfl
      go_enter Try.func32, Try.ntmps32
      go_wp2_with fail
      refine (unhide HG).mono ?_
      rintro e w1 ⟨rfl, hb⟩
      have HB1 := hide hb
      clear hb
      go_wp2_with fail
      go_ret3
      exact ⟨by rw [unhide HRR]; rfl, unhide HB1⟩
    · have hz : ((n : Int) == 0) = false := by simp; omega
      have hz2 : ¬ n = 0 := by omega
      go_enter Try.func32, Try.ntmps32
      go_wp2_with fail
      refine (unhide HG).mono ?_
      rintro e w1 ⟨rfl, hb⟩
      have HB1 := hide hb
      clear hb
      go_wp2_with fail
      go_loopw [5, 6, 7] (fun a b i wr => ∃ (k : Nat) (lo hi : Int), k ≤ n ∧ i = .int .i64 k ∧ a = .int .i64 lo ∧ b = .int .i64 hi ∧ Hid (lo = bLo xs k) ∧ Hid (hi = bHi xs k) ∧ Hid (Below w.heap.size w wr)) (fun _ _ i _ => n - (intOf i).toNat)
      case atStart => exact ⟨0, 1, 5000, Nat.zero_le _, rfl, rfl, rfl, rfl, rfl, unhide HB1⟩
      case round =>
        obtain ⟨k, lo, hi, hk, rfl, rfl, rfl, hLo, hHi, hB⟩ := hrel
        by_cases hlt : k < n
        · obtain ⟨ad, s, rfl, hbx, hx, hrow⟩ := ((unhide HR).below (unhide hB)).get hlt
          obtain ⟨c0, c1, c2, c3, c4, c5, c6, c7⟩ := hrow
          have hL2 : Hid (max lo s.lw = bLo xs (k + 1)) := by unfold Hid; rw [bLo_step (unhide hx), ← unhide hLo]
          have hH2 : Hid (min hi s.hg = bHi xs (k + 1)) := by unfold Hid; rw [bHi_step (unhide hx), ← unhide hHi]
          have HM := hide (fun W => l1Most_any lo s.lw W)
          have HN := hide (fun W => l1Least_any hi s.hg W)
          have l1 : (k : Int) < (n : Int) := by omega
          have l2 : (0 : Int) ≤ (k : Int) := by omega
          clear hx hLo hHi hz hz2
          generalize max lo s.lw = lo2 at HM hL2
          generalize min hi s.hg = hi2 at HN hH2
          go_wp2_with fail
          refine (unhide HM _).mono ?_
          rintro e w9 ⟨rfl, rfl⟩
          go_wp2_with fail
          refine (unhide HN _).mono ?_
          rintro e w9 ⟨rfl, rfl⟩
          go_wp2_with fail
          go_roundw
          case rel => exact ⟨k + 1, lo2, hi2, by omega, by go_num, rfl, rfl, hL2, hH2, unhide hB⟩
          case measure => simp [intOf]; omega
        · obtain rfl : k = n := by omega
          rcases h3 : decide (lo ≤ hi) with _ | _
          · have h3' : decide (hi < lo) = true := by have := of_decide_eq_false h3; exact decide_eq_true (by omega)
            have h3n : hi < lo := of_decide_eq_true h3'
            have HRR : Hid (bandR xs = (0, 0, false)) := by unfold Hid bandR; rw [h1, unhide HL, ← unhide hLo, ← unhide hHi, h3]; simp
            go_wp2_with fail
            go_ret3
            exact ⟨by rw [unhide HRR]; rfl, unhide hB⟩
          · have h3' : decide (hi < lo) = false := by have := of_decide_eq_true h3; exact decide_eq_false (by omega)
            have h3n : ¬ hi < lo := of_decide_eq_false h3'
            have HRR : Hid (bandR xs = (lo, hi, true)) := by unfold Hid bandR; rw [h1, unhide HL, ← unhide hLo, ← unhide hHi, h3, decide_eq_false hz2]; rfl
            go_wp2_with fail
            go_ret3
            exact ⟨by rw [unhide HRR]; rfl, unhide hB⟩

end Go.Proofs.Ytihkocplgciifaa
