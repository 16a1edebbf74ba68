/- Chapter 5, the walk: slices.Delete of one mark, in place. -/
import Derived.Test.YtmpgafanlgnpeaaProg
import Derived.Test.YtmpgafanlgnpeaaDrop
namespace Go.Proofs.Ytmpgafanlgnpeaa
open Go.RowKit

/-- the marks without one come back, in their own memory -/
def RetDel (w : World) (lo g c : Nat) (xs : List (Int × Int)) (i : Nat) (e : Ending) (w' : World) : Prop := ∃ m, e = .returned (.slice (some ⟨g, 0, none⟩) m c) ∧ OwnP w' lo 43 (some ⟨g, 0, none⟩) m c (del xs i) ∧ w.grownBy w' (some g)

theorem grown_drew {a b : World} {row : Option Nat} (h : a.drew.grownBy b row) : a.grownBy b row := ⟨h.os, h.tape, h.output, h.size, h.block⟩
set_option maxHeartbeats 1000000 in
set_option maxRecDepth 100000 in
theorem Delete_any (lo g i p c : Nat) (xs : List (Int × Int)) (w : World) (h : OwnP w lo 43 (some ⟨g, 0, none⟩) (p + 1) c xs) (hi : i < p) (hn : p ≤ 2097152) :
    Calls Try.prog 75 #[.slice (some ⟨g, 0, none⟩) (p + 1) c, .int .i64 i, .int .i64 ((i : Int) + 1)] w (RetDel w lo g c xs i) := by
  have hc := h.cap
  have HO := hide h
  have hcm : c ≤ 9223372036854775807 := by
    rcases h.2 with ⟨hv, h0⟩ | ⟨g', cap, cur, hv, hg, hh, hle, hm, hs, ht⟩
    · cases hv
    · injection hv with h1 h2 h3
      unfold maxLen at hm
      omega
  clear h
  have hne : ((i : Int) == (i : Int) + 1) = false := by simp; omega
  have hne2 : ¬ c = i + 1 := by omega
  have hne3 : ¬ c = p := by omega
  have l1 : i ≤ c := by omega
  have l2 : i + 1 ≤ p + 1 := by omega
  have l3 : i + 1 ≤ c := by omega
  have l4 : (0 : Int) ≤ (i : Int) + 1 := by omega
  have l5 : (i : Int) + 1 ≤ (p : Int) + 1 := by omega
  have l6 : i ≤ p := by omega
  go_enter Try.func75, Try.ntmps75
  go_wp2_with fail
  go_region_law (refine step_del rfl _ _ rfl lo g i (p + 1) c xs (unhide HO) (by omega) rfl _ _ p (by omega) rfl _ rfl rfl ?_; intro w1 hO1 hg1)
  all_goals
    obtain ⟨u0, hu0⟩ := ownP_room hO1 (p * 2) (by omega)
    obtain ⟨u1, hu1⟩ := ownP_room hO1 (p * 2 + 1) (by omega)
    have hcl : ∀ ty, (Builtin.clear_ #[25] ty #[.slice (some ⟨g, p * 2, none⟩) 1 (c - p)]).run Try.prog w1 = .ok (.tuple #[]) ((w1.setCell ⟨g, p * 2, none⟩ (.int .i64 0)).setCell ⟨g, p * 2 + 1, none⟩ (.int .i64 0)) := fun ty =>
      run_clear_one w1 ty g (p * 2) (c - p) u0 u1 hu0 hu1 (World.ownsRow.frozenAt hO1 _) (World.ownsRow.frozenAt hO1 _)
    have hO2 := ownP_beyond (ownP_beyond hO1 (p * 2) (Nat.le_refl _) (.int .i64 0)) (p * 2 + 1) (by omega) (.int .i64 0)
    have hg2 := (World.ownsRow.stored hO1 (p * 2) (.int .i64 0)).2
    have hg3 := (World.ownsRow.stored (World.ownsRow.stored hO1 (p * 2) (.int .i64 0)).1 (p * 2 + 1) (.int .i64 0)).2
    have HP : Hid (OwnP ((w1.setCell ⟨g, p * 2, none⟩ (.int .i64 0)).setCell ⟨g, p * 2 + 1, none⟩ (.int .i64 0)) lo 43 (some ⟨g, 0, none⟩) p c (del xs i)) := hO2
    have HG : Hid (w.grownBy ((w1.setCell ⟨g, p * 2, none⟩ (.int .i64 0)).setCell ⟨g, p * 2 + 1, none⟩ (.int .i64 0)) (some g)) := grownBy_trans (grownBy_trans (grown_drew hg1) hg2) hg3
    generalize ((w1.setCell ⟨g, p * 2, none⟩ (.int .i64 0)).setCell ⟨g, p * 2 + 1, none⟩ (.int .i64 0)) = w2 at hcl HP HG
    clear hO1 hO2 hg1 hg2 hg3 hu0 hu1 l1 l2 l3 l4 l5 hne hne2 HO hi
    go_wp2_with fail
    go_ret
    exact ⟨p, rfl, unhide HP, unhide HG⟩
end Go.Proofs.Ytmpgafanlgnpeaa
