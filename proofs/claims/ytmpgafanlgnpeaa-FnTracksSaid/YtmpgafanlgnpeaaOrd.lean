/- Chapter 5, the walks: marks put in order; a mark put to its place. -/
import Derived.Test.YtmpgafanlgnpeaaProg
import Derived.Test.YtmpgafanlgnpeaaDropC
import Derived.Test.YtmpgafanlgnpeaaStabM
import Derived.Test.YtmpgafanlgnpeaaOrdPlain
namespace Go.Proofs.Ytmpgafanlgnpeaa
open Go.RowKit

/-- a copy, its address written out -/
theorem copyM2_any (A : Option Addr) (n c L : Nat) (xs : List (Int × Int)) (w : World) (hr : RP w L A n xs) (hL : L ≤ w.heap.size) (hn : n ≤ 4194304) :
    Calls Try.prog 73 #[.slice A n c] w fun e w' => ∃ g c', e = .returned (.slice (some ⟨g, 0, none⟩) n c') ∧ OwnP w' w.heap.size 43 (some ⟨g, 0, none⟩) n c' xs ∧ Below w.heap.size w w' := by
  have HR := hide hr
  clear hr
  go_enter Try.func73, Try.ntmps73
  go_wp2_with (at_builtin; refine append_marks _ rfl _ _ rfl w _ 0 0 [] rfl (OwnP.empty w _ (Nat.le_refl _)) ((Below.refl _ w).alloc (Nat.le_refl _) _) A n c _ xs rfl ((unhide HR).alloc hL _) (by omega) ?_; intro A2 c2 w2 hO2 hB2 hg2 hl2)
  have hA : ∃ g, A2 = some ⟨g, 0, none⟩ := by
    rcases hO2.2 with ⟨hv, h0⟩ | ⟨g, cap, cur, hv, _⟩
    · injection hv with h1 h2 h3
      subst h1
      rcases hl2 with h | h <;> cases h
    · injection hv with h1 h2 h3
      exact ⟨g, h1⟩
  obtain ⟨g, rfl⟩ := hA
  go_ret
  exact ⟨g, c2, by simp, by simpa using hO2, hB2⟩

set_option maxRecDepth 100000 in
theorem ordered_any (A : Option Addr) (n c L : Nat) (xs : List (Int × Int)) (w : World) (hr : RP w L A n xs) (hL : L ≤ w.heap.size) (hn : n ≤ 4194304) :
    Calls Try.prog 72 #[.slice A n c] w (RetP w 43 (osort xs)) := by
  have HC := hide (copyM2_any A n c L xs w hr hL hn)
  have HL := hide hr.len
  clear hr
  go_enter Try.func72, Try.ntmps72
  go_wp2_with fail
  refine (unhide HC).mono ?_
  rintro e w1 ⟨g, c1, rfl, hO, hb⟩
  have HO := hide hO
  have HB := hide hb
  have hz := hb.size
  have hgl : w.heap.size ≤ g := by
    rcases hO.2 with ⟨hv, h0⟩ | ⟨g', cap, cur, hv, hg, _⟩
    · cases hv
    · injection hv with h1 h2 h3
      injection h1 with h1
      injection h1 with h1
      omega
  clear hO hb HC
  go_wp2_with fail
  refine (SortStableM w.heap.size g n c1 xs _ (unhide HO) hn).mono ?_
  rintro e w2 ⟨ys, rfl, hO2, hg2, hs, ht⟩
  have HO2 : Hid (OwnP w2 w.heap.size 43 (some ⟨g, 0, none⟩) n c1 (osort xs)) := by
    rw [← osort_of (unhide HL) hs ht]
    exact hO2
  have HB2 := hide ((unhide HB).grown hg2 hz (fun k e => by injection e with e; omega))
  clear hO2 hg2 hs ht
  go_wp2_with fail
  go_ret
  exact ⟨_, n, c1, rfl, unhide HO2, unhide HB2⟩
end Go.Proofs.Ytmpgafanlgnpeaa
