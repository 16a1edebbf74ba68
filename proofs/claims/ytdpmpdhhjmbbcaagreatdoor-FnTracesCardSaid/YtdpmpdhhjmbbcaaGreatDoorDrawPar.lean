/- Chapter 2, the walks: the text that the reference draws to be read. -/
import Derived.Test.YtdpmpdhhjmbbcaaGreatDoorProg
import Derived.Test.YtdpmpdhhjmbbcaaGreatDoorDrawTr
import Derived.Test.YtdpmpdhhjmbbcaaGreatDoorSpoil
import Derived.Test.YtdpmpdhhjmbbcaaGreatDoorParPlain
import Derived.Deep.DeepCutAuto
namespace Go.Proofs.YtdpmpdhhjmbbcaaGreatDoor
open Go.RowKit

/-- a text is drawn -/
def RetDS (w : World) (e : Ending) (w' : World) : Prop := ∃ s : ByteArray, e = .returned (.string s) ∧ s.size ≤ 300 ∧ Below w.heap.size w w'
set_option maxHeartbeats 4000000 in
set_option maxRecDepth 100000 in
theorem drawParseTrace_any (A : Option Addr) (n c : Nat) (xs : List Int) (w : World) (hr : RB w w.heap.size A n xs) (hn : n ≤ 65536) :
    Calls Tryz.prog 13 #[.slice A n c] w (RetDS w) := by
  have HC0 := hide (Cur.new c hr)
  have HBA := hide ((Below.refl _ w).alloc (Nat.le_refl _) (.cells #[.slice A n c, .int .i64 0, .int .u64 0] 58))
  clear hr
  go_enter Tryz.func13, Tryz.ntmps13
  go_wp2_with fail
  generalize w.alloc (.cells #[.slice A n c, .int .i64 0, .int .u64 0] 58) = w0 at *
  have hgA := (unhide HC0).lt
  refine (trace_any w.heap.size n c 0 A xs w0 (unhide HC0) (by omega) (by omega)).mono ?_
  rintro e w1 ⟨st, sa, A', n', c', ys, rfl, hO, hn', hys, hC, hgr⟩
  have HG2 := hide (grown_alloc hgr (.cells #[.int .i64 st, .int .i64 sa, .slice A' n' c'] 26))
  have HC2 := hide (hC.alloc (.cells #[.int .i64 st, .int .i64 sa, .slice A' n' c'] 26))
  have HO2 := hide (hO.alloc (.cells #[.int .i64 st, .int .i64 sa, .slice A' n' c'] 26))
  have HK2 := hide (Whl.here w1 26 #[.int .i64 st, .int .i64 sa, .slice A' n' c'])
  have HL := hide hO.len
  clear hC hgr hO hys HC0
  have HX := hide (l2Good_any st sa A' n' c' ys (w1.alloc (.cells #[.int .i64 st, .int .i64 sa, .slice A' n' c'] 26)) (unhide HO2).ri (by omega))
  go_wp2_with fail
  refine (unhide HX).mono ?_
  rintro e w3 ⟨rfl, hb⟩
  have HG3 := hide (grown_below (unhide HG2) hb)
  have HC3 := hide ((unhide HC2).kept hb)
  have HO3 := hide (OwnI.below (unhide HO2) hb (Nat.le_refl _))
  have HK3 := hide ((unhide HK2).below hb)
  clear hb HG2 HC2 HO2 HK2 HX
  generalize w1.heap.size = gm at *
  have k0 : w3.cell? ⟨gm, 0, none⟩ = some (.int .i64 st) := (unhide HK3).cell 0
  have k1 : w3.cell? ⟨gm, 1, none⟩ = some (.int .i64 sa) := (unhide HK3).cell 1
  have k2 : w3.cell? ⟨gm, 2, none⟩ = some (.slice A' n' c') := (unhide HK3).cell 2
  go_upto_if 12 with (fail)
  go_cut [4] (fun v wx => ∃ z : ByteArray, v = .string z ∧ z.size ≤ 220 ∧ Hid (Cur wx w.heap.size A n c xs (0 + 220)) ∧ Hid (w0.grownBy wx (some w.heap.size)))
  case first =>
    rcases hg : goodB st sa ys with _ | _
    · go_wp2_with fail
      go_meet
      exact ⟨_, rfl, by decide, HC3, HG3⟩
    · have HT := hide (l2Text_any st sa A' n' c' ys w3 (unhide HO3).ri hg)
      have hz : (txtN st sa ys n').size ≤ 220 := by have h9 := txt_220 hg; rw [unhide HL] at h9; exact h9
      clear hg
      go_wp2_with fail
      refine (unhide HT).mono ?_
      rintro e w4 ⟨rfl, hb⟩
      have HG4 := hide (grown_below (unhide HG3) hb)
      have HC4 := hide ((unhide HC3).kept hb)
      clear hb k0 k1 k2
      go_wp2_with fail
      go_meet
      exact ⟨_, rfl, hz, HC4, HG4⟩
  case rest =>
    obtain ⟨z, rfl, hz, hC, hG⟩ := hcut
    clear k0 k1 k2
    go_wp2_with fail
    refine (one_any w.heap.size n c (0 + 220) A xs 4 wc (unhide hC) (by omega) (by omega) (by omega) (by omega)).mono ?_
    rintro e w5 ⟨bb, rfl, hC5, hg5⟩
    have HG5 := hide (grownBy_trans (unhide hG) hg5)
    have HC5 := hide hC5
    clear hC5 hg5
    rcases bb with _ | _
    · go_wp2_with fail
      go_ret
      exact ⟨z, rfl, by omega, below_cur (unhide HBA) (unhide HG5) (Nat.le_refl _)⟩
    · go_wp2_with fail
      refine (spoilt_any w.heap.size n c (0 + 220 + 2) A xs z _ w5 (unhide HC5) (by omega) (by omega) (by omega) (by decide) (by decide)).mono ?_
      rintro e w6 ⟨x, rfl, hx, hC, hg⟩
      have HG6 := hide (grownBy_trans (unhide HG5) hg)
      clear hC hg
      go_wp2_with fail
      go_ret
      exact ⟨x, rfl, Nat.le_trans hx (by omega), below_cur (unhide HBA) (unhide HG6) (Nat.le_refl _)⟩
end Go.Proofs.YtdpmpdhhjmbbcaaGreatDoor
