/- Chapter 1: a string split at a separator: the program's and the reference's. -/
import Derived.Test.YtibnindjdbkmcaaDoorProg
import Derived.Test.YtibnindjdbkmcaaDoorSplit
import Derived.Test.YtibnindjdbkmcaaDoorShelf
namespace Go.Proofs.YtibnindjdbkmcaaDoor
open Go.RowKit

/-- the variable holds some number -/
def MaxL (w : World) : Prop := ∃ m, w.cell? ⟨0, 0, none⟩ = some (.int .i64 m)
theorem MaxL.stays {w w' : World} (h : MaxL w) (hb : Below w.heap.size w w') : MaxL w' := by
  obtain ⟨m, hm⟩ := h
  exact ⟨m, (hb.cell (p := ⟨_, 0, none⟩) (World.block_lt_of_cell? w _ hm)).trans hm⟩
/-- fresh strings and a bool come back -/
def RetTB (w : World) (ys : List ByteArray) (b : Bool) (e : Ending) (w' : World) : Prop := ∃ A n c, e = .returned (.tuple #[.slice A n c, .bool b]) ∧ OwnT w' w.heap.size A n c ys ∧ Below w.heap.size w w'
/-- a string split, whether it can be -/
def splitR (s sep : ByteArray) : List ByteArray × Bool := if (decide (sep.size = 1) && decide (s.size ≤ 4000)) = true then (splitA (sep.data.toList.headD 0) s, true) else ([], false)
theorem bytes_map {xs ys : List ByteArray} (h : xs.map (·.data.toList) = ys.map (·.data.toList)) : xs = ys := by
  induction xs generalizing ys with
  | nil => cases ys with
    | nil => rfl
    | cons y l => simp at h
  | cons x l ih => cases ys with
    | nil => simp at h
    | cons y l' =>
      simp only [List.map_cons, List.cons.injEq] at h
      rw [bytes_ext h.1, ih h.2]
theorem splitB_A (b : UInt8) (s : ByteArray) : Lib.splitB ⟨#[b]⟩ 0 (Lib.countB s ⟨#[b]⟩) s = splitA b s := by
  apply bytes_map
  rw [Lib.splitB_data]
  have h := split_all b s.data.toList
  unfold Lib.split at h
  unfold splitA
  rw [List.map_map]
  have e : ((fun x : ByteArray => x.data.toList) ∘ fun l : List UInt8 => (⟨l.toArray⟩ : ByteArray)) = id := by funext l; simp
  rw [e, List.map_id]
  exact h
theorem splitA_len (b : UInt8) (s : ByteArray) : (splitA b s).length ≤ s.size + 1 := by
  rw [← splitB_A, Lib.splitB_all ⟨#[b]⟩ (Nat.le_refl _) 0 _ s rfl]
  have := Lib.countB_le ⟨#[b]⟩ (Nat.le_refl _) s.size s (Nat.le_refl _)
  omega
theorem splitR_len (s sep : ByteArray) : (splitR s sep).1.length ≤ 2097152 := by
  unfold splitR
  split
  · rename_i h
    rw [Bool.and_eq_true, decide_eq_true_iff, decide_eq_true_iff] at h
    have := splitA_len (sep.data.toList.headD 0) s
    simp only
    omega
  · simp
theorem Split_any (s : ByteArray) (b : UInt8) (w : World) (hs : s.size ≤ 1048576) (hm : MaxL w) : Calls Tryd.prog 19 #[.string s, .string ⟨#[b]⟩] w (RetT w (splitA b s)) := by
  obtain ⟨m, hm⟩ := hm
  refine (Tryd.strings_Split s ⟨#[b]⟩ m w (by omega) hm (Nat.le_refl _)).mono ?_
  rintro e w' ⟨rfl, rfl⟩
  have hl := Lib.splitB_all ⟨#[b]⟩ (Nat.le_refl _) 0 _ s rfl
  have hc := Lib.countB_le ⟨#[b]⟩ (Nat.le_refl _) s.size s (Nat.le_refl _)
  refine ⟨_, _, _, rfl, ?_, (Below.refl _ w).alloc (Nat.le_refl _) _⟩
  unfold OwnT cT
  rw [← splitB_A]
  exact World.ownsRow_lit w _ _ (Nat.le_refl _) (by unfold maxLen; omega) (by simp [hl])

set_option maxHeartbeats 400000 in
theorem specSplit_any (s sep : ByteArray) (w : World) (hs : s.size ≤ 1048576) (hq : sep.size ≤ 1048576) : Calls Tryd.prog 5 #[.string s, .string sep] w (RetTB w (splitR s sep).1 (splitR s sep).2) := by
  by_cases h1 : sep.size = 1
  · by_cases h4 : s.size ≤ 4000
    · obtain ⟨b, rfl⟩ := one_byte h1
      have HRR : Hid (splitR s ⟨#[b]⟩ = (splitA b s, true)) := by unfold Hid splitR; rw [decide_eq_true h1, decide_eq_true h4]; rfl
      have HP : Hid (∀ W, Calls Tryd.prog 18 #[.string s, .int .u8 (((ByteArray.mk #[b])[0]'Nat.zero_lt_one).toNat)] W (RetT W (splitA b s))) := fun W => l1Split_any s b W hs
      clear h1
      go_enter Tryd.func5, Tryd.ntmps5
      go_wp2_with fail
      refine (unhide HP _).mono ?_
      rintro e w1 ⟨A, n, c, rfl, hO, hb⟩
      have HO := hide hO
      have HB := hide hb
      clear hO hb
      go_wp2_with fail
      go_ret2
      rw [unhide HRR]
      exact ⟨A, n, c, rfl, unhide HO, unhide HB⟩
    · have HRR : Hid (splitR s sep = ([], false)) := by unfold Hid splitR; rw [decide_eq_false h4, Bool.and_false]; rfl
      have ht : ((sep.size : Int) != 1) = false := by simp; omega
      clear h1
      go_enter Tryd.func5, Tryd.ntmps5
      go_wp2_with fail
      go_ret2
      rw [unhide HRR]
      exact ⟨_, 0, 0, rfl, OwnT.empty _ (Nat.le_refl _), (Below.refl _ _).alloc (Nat.le_refl _) _⟩
  · have HRR : Hid (splitR s sep = ([], false)) := by unfold Hid splitR; rw [decide_eq_false h1]; rfl
    have ht : ((sep.size : Int) != 1) = true := by simp; omega
    go_enter Tryd.func5, Tryd.ntmps5
    go_wp2_with fail
    go_ret2
    rw [unhide HRR]
    exact ⟨_, 0, 0, rfl, OwnT.empty _ (Nat.le_refl _), (Below.refl _ _).alloc (Nat.le_refl _) _⟩

set_option maxHeartbeats 400000 in
theorem implSplit_any (s sep : ByteArray) (w : World) (hs : s.size ≤ 1048576) (hq : sep.size ≤ 1048576) (hm : MaxL w) : Calls Tryd.prog 6 #[.string s, .string sep] w (RetTB w (splitR s sep).1 (splitR s sep).2) := by
  by_cases h1 : sep.size = 1
  · by_cases h4 : s.size ≤ 4000
    · obtain ⟨b, rfl⟩ := one_byte h1
      have HRR : Hid (splitR s ⟨#[b]⟩ = (splitA b s, true)) := by unfold Hid splitR; rw [decide_eq_true h1, decide_eq_true h4]; rfl
      have HP := hide (Split_any s b w hs hm)
      clear h1 hm
      go_enter Tryd.func6, Tryd.ntmps6
      go_wp2_with fail
      refine (unhide HP).mono ?_
      rintro e w1 ⟨A, n, c, rfl, hO, hb⟩
      have HO := hide hO
      have HB := hide hb
      clear hO hb
      go_wp2_with fail
      go_ret2
      rw [unhide HRR]
      exact ⟨A, n, c, rfl, unhide HO, unhide HB⟩
    · have HRR : Hid (splitR s sep = ([], false)) := by unfold Hid splitR; rw [decide_eq_false h4, Bool.and_false]; rfl
      clear h1 hm
      go_enter Tryd.func6, Tryd.ntmps6
      go_wp2_with fail
      go_ret2
      rw [unhide HRR]
      exact ⟨_, 0, 0, rfl, OwnT.nil _ _, Below.refl _ _⟩
  · have HRR : Hid (splitR s sep = ([], false)) := by unfold Hid splitR; rw [decide_eq_false h1]; rfl
    have ht : ((sep.size : Int) != 1) = true := by simp; omega
    clear hm
    by_cases h4 : s.size ≤ 4000
    all_goals
      go_enter Tryd.func6, Tryd.ntmps6
      go_wp2_with fail
      go_ret2
      rw [unhide HRR]
      exact ⟨_, 0, 0, rfl, OwnT.nil _ _, Below.refl _ _⟩
end Go.Proofs.YtibnindjdbkmcaaDoor
