/- Chapter 2, the walks: valid traces: the program's and the reference's. -/
import Derived.Test.YtdpmpdhhjmbbcaaGreatDoorProg
import Derived.Test.YtdpmpdhhjmbbcaaGreatDoorTrace
namespace Go.Proofs.YtdpmpdhhjmbbcaaGreatDoor
open Go.RowKit

theorem ownR_cap {w : World} {lo hi k n c : Nat} {E : TypeId} {A : Option Addr} {cs : List Value} (h : OwnR w lo hi E k A n c cs) : n ≤ c := by
  rcases h.1.2 with ⟨hv, h0⟩ | ⟨g, cap, cur, hv, hg, hh, hle, _⟩
  · omega
  · injection hv with _ _ h3
    omega
/-- a valid trace -/
def goodB (st sa : Int) (xs : List Int) : Bool := inB st 1 99 && inB sa 0 1000000 && smpB xs && decide (sa + xs.length ≤ 1000001)
theorem goodB_parts {st sa : Int} {xs : List Int} (h : goodB st sa xs = true) : (1 ≤ st ∧ st ≤ 99) ∧ (0 ≤ sa ∧ sa ≤ 1000000) ∧ smpB xs = true ∧ sa + xs.length ≤ 1000001 := by
  unfold goodB at h
  simp only [Bool.and_eq_true, decide_eq_true_eq] at h
  exact ⟨inB_iff.1 h.1.1.1, inB_iff.1 h.1.1.2, h.1.2, h.2⟩
theorem smpB_len {xs : List Int} (h : smpB xs = true) : xs.length ≤ 24 := by
  unfold smpB at h
  simp only [Bool.and_eq_true, decide_eq_true_eq] at h
  exact h.1
theorem smpB_all {xs : List Int} (h : smpB xs = true) : ∀ x ∈ xs, -100000 ≤ x ∧ x ≤ 100000 := by
  unfold smpB at h
  simp only [Bool.and_eq_true, List.all_eq_true] at h
  exact fun x hx => inB_iff.1 (h.2 x hx)

theorem last_any (st sa : Int) (A : Option Addr) (n c : Nat) (w : World) (h0 : 0 ≤ sa) (h1 : sa ≤ 1000000) (hn : n ≤ 1048576) :
    Calls Tryz.prog 29 #[.agg #[.int .i64 st, .int .i64 sa, .slice A n c]] w fun e w' => e = .returned (.int .i64 (sa + n - 1)) ∧ Below w.heap.size w w' := by
  go_enter Tryz.func29, Tryz.ntmps29
  go_wp2
  try (go_quiet (fail); go_wp2)
  go_ret
  exact ⟨rfl, by repeat (first | exact Below.refl _ _ | refine below_drewN ?_ _ | refine Below.alloc ?_ (Nat.le_refl _) _)⟩

set_option maxHeartbeats 2000000 in
theorem implIsTrace_any (st sa : Int) (A : Option Addr) (n c : Nat) (xs : List Int) (w : World) (hr : RI w w.heap.size A n xs) (hn : n ≤ 1048576) :
    Calls Tryz.prog 9 #[.agg #[.int .i64 st, .int .i64 sa, .slice A n c]] w fun e w' => e = .returned (.bool (goodB st sa xs)) ∧ Below w.heap.size w w' := by
  have HS := hide (areSamples_any A n c xs _ ((hr.alloc (Nat.le_refl _) (.cells #[.int .i64 st, .int .i64 sa, .slice A n c] 26)).more (by simp)) (by omega))
  have HL := hide hr.len
  have B0 : Hid (Below w.heap.size w (w.alloc (.cells #[.int .i64 st, .int .i64 sa, .slice A n c] 26))) := (Below.refl _ _).alloc (Nat.le_refl _) _
  clear hr
  unfold goodB
  cases h1 : inB st 1 99
  · go_enter Tryz.func9, Tryz.ntmps9
    go_wp2_with (go_at_call 26; refine (in_any _ _ _ _).mono ?_; rintro e w1 ⟨rfl, rfl⟩)
    go_ret
    exact ⟨rfl, unhide B0⟩
  · cases h2 : inB sa 0 1000000
    · go_enter Tryz.func9, Tryz.ntmps9
      go_wp2_with (first
        | (go_at_call 26; refine (in_any _ _ _ _).mono ?_; rintro e w1 ⟨rfl, rfl⟩)
        | (go_at_call 27; refine (isTick_any _ _).mono ?_; rintro e w1 ⟨rfl, rfl⟩))
      go_ret
      exact ⟨rfl, unhide B0⟩
    · obtain ⟨g0, g1⟩ := inB_iff.1 h2
      cases h3 : smpB xs
      · go_enter Tryz.func9, Tryz.ntmps9
        go_wp2_with (first
          | (go_at_call 26; refine (in_any _ _ _ _).mono ?_; rintro e w1 ⟨rfl, rfl⟩)
          | (go_at_call 27; refine (isTick_any _ _).mono ?_; rintro e w1 ⟨rfl, rfl⟩)
          | (go_at_call 28; refine (unhide HS).mono ?_; rintro e w2 ⟨rfl, hb⟩; have HB := hide hb; clear hb))
        go_ret
        exact ⟨rfl, (unhide B0).trans ((unhide HB).mono (by simp))⟩
      · have hq : Hid (decide (sa + (xs.length : Int) ≤ 1000001) = decide (sa + (n : Int) - 1 ≤ 1000000)) := by unfold Hid; rw [unhide HL]; exact decide_eq_decide.2 (by omega)
        rw [unhide hq]
        clear hq
        go_enter Tryz.func9, Tryz.ntmps9
        go_wp2_with (first
          | (go_at_call 26; refine (in_any _ _ _ _).mono ?_; rintro e w1 ⟨rfl, rfl⟩)
          | (go_at_call 27; refine (isTick_any _ _).mono ?_; rintro e w1 ⟨rfl, rfl⟩)
          | (go_at_call 28; refine (unhide HS).mono ?_; rintro e w2 ⟨rfl, hb⟩; obtain ⟨hcc, _⟩ := bcell hb; have HB := hide hb; clear hb)
          | (go_at_call 29; refine (last_any _ _ _ _ _ _ g0 g1 hn).mono ?_; rintro e w3 ⟨rfl, hb3⟩; have HB3 := hide hb3; clear hb3))
        go_ret
        have z2 := (unhide HB).size
        simp at z2
        exact ⟨rfl, ((unhide B0).trans ((unhide HB).mono (by simp))).trans ((unhide HB3).mono (by omega))⟩

set_option maxHeartbeats 2000000 in
theorem l2Good_any (st sa : Int) (A : Option Addr) (n c : Nat) (xs : List Int) (w : World) (hr : RI w w.heap.size A n xs) (hn : n ≤ 1048576) :
    Calls Tryz.prog 24 #[.agg #[.int .i64 st, .int .i64 sa, .slice A n c]] w fun e w' => e = .returned (.bool (goodB st sa xs)) ∧ Below w.heap.size w w' := by
  have HS := hide (fun (q : Nat) => l2Samples_any A n c w.heap.size xs ((w.alloc (.cells #[.int .i64 st, .int .i64 sa, .slice A n c] 26)).drewN q) ((hr.alloc (Nat.le_refl _) (.cells #[.int .i64 st, .int .i64 sa, .slice A n c] 26)).below (below_drewN (Below.refl _ _) _)) (by omega))
  have HL := hide hr.len
  have B0 : Hid (Below w.heap.size w (w.alloc (.cells #[.int .i64 st, .int .i64 sa, .slice A n c] 26))) := (Below.refl _ _).alloc (Nat.le_refl _) _
  clear hr
  unfold goodB
  cases h1 : inB st 1 99
  · go_enter Tryz.func24, Tryz.ntmps24
    go_wp2
    go_quiet ((first | (go_at_call 49; exact Calls.quiet_of_same ((l1In_any _ _ _ _).mono fun _ _ ⟨a, b⟩ => ⟨by rw [a, h1], b.symm⟩))))
    go_wp2
    go_ret
    exact ⟨rfl, below_drewN (unhide B0) _⟩
  · cases h2 : inB sa 0 1000000
    · go_enter Tryz.func24, Tryz.ntmps24
      go_wp2
      go_quiet ((first | (go_at_call 49; exact Calls.quiet_of_same ((l1In_any _ _ _ _).mono fun _ _ ⟨a, b⟩ => ⟨by rw [a, h1], b.symm⟩)) | (go_at_call 50; exact Calls.quiet_of_same ((l2Tick_any _ _).mono fun _ _ ⟨a, b⟩ => ⟨by rw [a, h2], b.symm⟩))))
      go_wp2
      go_ret
      exact ⟨rfl, below_drewN (unhide B0) _⟩
    · obtain ⟨g0, g1⟩ := inB_iff.1 h2
      cases h3 : smpB xs
      · go_enter Tryz.func24, Tryz.ntmps24
        go_wp2
        go_quiet ((first | (go_at_call 49; exact Calls.quiet_of_same ((l1In_any _ _ _ _).mono fun _ _ ⟨a, b⟩ => ⟨by rw [a, h1], b.symm⟩)) | (go_at_call 50; exact Calls.quiet_of_same ((l2Tick_any _ _).mono fun _ _ ⟨a, b⟩ => ⟨by rw [a, h2], b.symm⟩)) | (go_at_call 51; exact Calls.quiet_of_same ((unhide HS _).mono fun _ _ ⟨a, b⟩ => ⟨by rw [a, h3], b.symm⟩))))
        go_wp2
        go_ret
        exact ⟨rfl, below_drewN (unhide B0) _⟩
      · have hn24 : n ≤ 24 := by have := smpB_len h3; have := unhide HL; omega
        obtain ⟨M, hM⟩ : ∃ M : Int, M = max 0 ((n : Int) - 1) := ⟨_, rfl⟩
        have m0 : 0 ≤ M := by omega
        have m1 : M ≤ 24 := by omega
        have C4 := fun W => l1Most_any 0 ((n : Int) - 1) W
        rw [← hM] at C4
        have h4 : Hid (inB (sa + M) 0 1000000 = decide (sa + (xs.length : Int) ≤ 1000001)) := by
          unfold Hid inB
          rw [unhide HL]
          have e1 : decide (0 ≤ sa + M) = true := decide_eq_true (by omega)
          rw [e1, Bool.true_and]
          exact decide_eq_decide.2 (by omega)
        rw [← unhide h4]
        have HC4 := hide C4
        have s1 : IntKind.i64.wrap ((n : Int) - 1) = (n : Int) - 1 := IntWalk.i64_in _ (by omega)
        have s2 : IntKind.i64.wrap (sa + M) = sa + M := IntWalk.i64_in _ (by omega)
        clear C4 hM
        go_enter Tryz.func24, Tryz.ntmps24
        go_wp2
        go_quiet ((first | (go_at_call 49; exact Calls.quiet_of_same ((l1In_any _ _ _ _).mono fun _ _ ⟨a, b⟩ => ⟨by rw [a, h1], b.symm⟩)) | (go_at_call 50; exact Calls.quiet_of_same ((l2Tick_any _ _).mono fun _ _ ⟨a, b⟩ => ⟨a, b.symm⟩)) | (go_at_call 52; exact Calls.quiet_of_same ((unhide HC4 _).mono fun _ _ ⟨a, b⟩ => ⟨a, b.symm⟩)) | (go_at_call 51; exact Calls.quiet_of_same ((unhide HS _).mono fun _ _ ⟨a, b⟩ => ⟨by rw [a, h3], b.symm⟩))))
        clear s1 s2
        go_wp2
        go_ret
        exact ⟨by simp, below_drewN (unhide B0) _⟩

end Go.Proofs.YtdpmpdhhjmbbcaaGreatDoor
