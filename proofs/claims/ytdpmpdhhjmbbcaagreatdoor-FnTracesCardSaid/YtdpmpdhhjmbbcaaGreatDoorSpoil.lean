/- The reference's cursor over bytes: a text with a byte more, less, or another one. -/
import Derived.Test.YtdpmpdhhjmbbcaaGreatDoorProg
import Derived.Test.YtdpmpdhhjmbbcaaGreatDoorCur
import Derived.Test.YtdpmpdhhjmbbcaaGreatDoorHas
namespace Go.Proofs.YtdpmpdhhjmbbcaaGreatDoor
open Go.RowKit

/-- a text that has P comes back and the cursor -/
def RetCZ (w : World) (g : Nat) (A : Option Addr) (n c : Nat) (xs : List Int) (b : Nat) (P : ByteArray → Prop) (e : Ending) (w' : World) : Prop :=
  ∃ x : ByteArray, e = .returned (.string x) ∧ P x ∧ Cur w' g A n c xs b ∧ w.grownBy w' (some g)
theorem extract_le (s : ByteArray) (i j : Nat) : (s.extract i j).size ≤ s.size := by rw [ByteArray.size_extract]; omega

set_option maxHeartbeats 2000000 in
set_option maxRecDepth 100000 in
theorem spoilt_any (g n c b : Nat) (A : Option Addr) (xs : List Int) (t wth : ByteArray) (w : World) (h : Cur w g A n c xs b) (hn : n ≤ 1048576) (hb : b ≤ 800000) (ht : t.size ≤ 1000) (h1 : 1 ≤ wth.size) (h2 : wth.size ≤ 100) :
    Calls Tryz.prog 35 #[.pointer (some ⟨g, 0, none⟩), .string t, .string wth] w (RetCZ w g A n c xs (b + 6) fun x => x.size ≤ t.size + 1) := by
  have HC := hide h
  clear h
  by_cases h0 : t.size = 0
  · obtain rfl : t = ByteArray.empty := by
      obtain ⟨⟨l⟩⟩ := t
      have : l.length = 0 := h0
      rw [List.eq_nil_of_length_eq_zero this]
      rfl
    have l1 : (1 : Int) ≤ (wth.size : Int) := by omega
    go_enter Tryz.func35, Tryz.ntmps35
    go_wp2_with fail
    go_ret
    exact ⟨_, rfl, by show (wth.extract 0 1).size ≤ _; rw [ByteArray.size_extract]; omega, (unhide HC).more (by omega), World.grownBy.refl _ _⟩
  · have e0 : t.toList.isEmpty = false := by
      rw [List.isEmpty_eq_false_iff, ByteArray.toList_eq]
      intro e
      exact h0 (by rw [Lib.size_eq, e]; rfl)
    go_enter Tryz.func35, Tryz.ntmps35
    go_wp2_with fail
    refine (pick_any g n c b A xs t.size _ (unhide HC) hn (by omega) (by omega) (by omega)).mono ?_
    rintro e w1 ⟨i, rfl, ⟨hi0, hi1⟩, hC, hg⟩
    have HC1 := hide hC
    have HG1 := hide hg
    clear hC hg
    obtain ⟨k, rfl⟩ : ∃ k : Nat, i = (k : Int) := ⟨i.toNat, by omega⟩
    go_wp2_with fail
    refine (pick_any g n c (b + 2) A xs wth.size _ (unhide HC1) hn (by omega) (by omega) (by omega)).mono ?_
    rintro e w2 ⟨i, rfl, ⟨hj0, hj1⟩, hC, hg⟩
    have HC2 := hide hC
    have HG2 := hide (grownBy_trans (unhide HG1) hg)
    clear hC hg
    obtain ⟨j, rfl⟩ : ∃ k : Nat, i = (k : Int) := ⟨i.toNat, by omega⟩
    have q1 : j ≤ wth.size := by omega
    have q2 : (1 : Int) ≤ ((wth.extract j wth.size).size : Int) := by rw [ByteArray.size_extract]; omega
    have q3 : 1 ≤ (wth.extract j wth.size).size := by omega
    go_wp2_with fail
    have hz : ((wth.extract j wth.size).extract 0 1).size ≤ 1 := by rw [ByteArray.size_extract]; omega
    generalize (wth.extract j wth.size).extract 0 1 = z at *
    have HZ := hide hz
    refine (pick_any g n c (b + 4) A xs 3 _ (unhide HC2) hn (by omega) (by omega) (by omega)).mono ?_
    rintro e w3 ⟨v, rfl, ⟨hv0, hv1⟩, hC, hg⟩
    have HC3 := hide hC
    have HG3 := hide (grownBy_trans (unhide HG2) hg)
    have HS : Hid (∀ p : Nat, (t.extract p t.size).size ≤ t.size - p) := fun p => by rw [ByteArray.size_extract]; omega
    have HS0 : Hid ((t.extract 0 k).size ≤ k) := by unfold Hid; rw [ByteArray.size_extract]; omega
    clear hC hg q2 q3
    have r1 : k ≤ t.size := by omega
    have r2 : (k : Int) ≤ (t.size : Int) := by omega
    have r3 : k + 1 ≤ t.size := by omega
    have r4 : (k : Int) + 1 ≤ (t.size : Int) := by omega
    have r5 : IntKind.i64.wrap ((k : Int) + 1) = (k : Int) + 1 := IntWalk.i64_in _ (by omega)
    rcases (show v = 0 ∨ v = 1 ∨ v = 2 by omega) with rfl | rfl | rfl
    · go_wp2_with fail
      go_quiet (fail)
      go_wp2_with fail
      go_ret
      exact ⟨_, rfl, by have h8 := unhide HZ; simp only [ByteArray.size_append, ByteArray.size_extract]; omega, unhide HC3, grownBy_trans (unhide HG3) (grown_drewN _ _ _)⟩
    · go_wp2_with fail
      go_quiet (fail)
      go_wp2_with fail
      go_ret
      exact ⟨_, rfl, by have h8 := unhide HZ; simp only [ByteArray.size_append, ByteArray.size_extract]; omega, unhide HC3, grownBy_trans (unhide HG3) (grown_drewN _ _ _)⟩
    · go_wp2_with fail
      go_quiet (fail)
      go_wp2_with fail
      go_ret
      exact ⟨_, rfl, by have h8 := unhide HZ; simp only [ByteArray.size_append, ByteArray.size_extract]; omega, unhide HC3, grownBy_trans (unhide HG3) (grown_drewN _ _ _)⟩
end Go.Proofs.YtdpmpdhhjmbbcaaGreatDoor
