/- Chapter 2, the walks: a tick within a trace that the reference draws. (By gen_drawTr.py.) -/
import Derived.Test.YtdpmpdhhjmbbcaaGreatDoorProg
import Derived.Test.YtdpmpdhhjmbbcaaGreatDoorDrawTr
import Derived.Deep.RegionHeld3
namespace Go.Proofs.YtdpmpdhhjmbbcaaGreatDoor
open Go.RowKit

set_option maxHeartbeats 8000000 in
set_option maxRecDepth 100000 in
theorem tickIn_any (g n c b : Nat) (A : Option Addr) (xs : List Int) (st sa : Int) (B : Option Addr) (m d : Nat) (w : World) (h : Cur w g A n c xs b) (hn : n ≤ 1048576) (hb : b ≤ 800000) (hm : m ≤ 26) :
    Calls Tryz.prog 39 #[.pointer (some ⟨g, 0, none⟩), .agg #[.int .i64 st, .int .i64 sa, .slice B m d]] w (RetC w g A n c xs (b + 4) fun _ => True) := by
  have hgw := h.lt
  have HK0 := hide (Whl.here w 26 #[.int .i64 st, .int .i64 sa, .slice B m d])
  have HC0 := hide (h.alloc (.cells #[.int .i64 st, .int .i64 sa, .slice B m d] 26))
  have HG0 := hide (grown_alloc (World.grownBy.refl w (some g)) (.cells #[.int .i64 st, .int .i64 sa, .slice B m d] 26))
  have hne1 : g ≠ w.heap.size := by omega
  have HB1 : b + 2 ≤ 4611686018427387900 := by omega
  have HB2 : b ≤ 4611686018427387900 := by omega
  have HP9 := hide (fun (W : World) (h : Cur W g A n c xs (b + 2)) => pick_any g n c (b + 2) A xs 9 W h hn HB1 (by decide) (by decide))
  clear h
  go_enter Tryz.func39, Tryz.ntmps39
  go_wp2_with fail
  generalize w.heap.size = gm at *
  obtain ⟨mm, s1, hm1, hm2⟩ : ∃ mm : Int, IntKind.i64.wrap ((m : Int) + 2) = mm ∧ 1 ≤ mm ∧ mm ≤ 1000000 := ⟨(m : Int) + 2, IntWalk.i64_in _ (by omega), by omega, by omega⟩
  generalize w.alloc (.cells #[.int .i64 st, .int .i64 sa, .slice B m d] 26) = w2 at *
  have k1 : w2.cell? ⟨gm, 1, none⟩ = some (.int .i64 sa) := (unhide HK0).cell 1
  have k2 : w2.cell? ⟨gm, 2, none⟩ = some (.slice B m d) := (unhide HK0).cell 2
  go_region_held3 (fun w' => w'.cell? ⟨gm, 0, none⟩ = some (.int .i64 st) ∧ w'.cell? ⟨gm, 1, none⟩ = some (.int .i64 sa) ∧ w'.cell? ⟨gm, 2, none⟩ = some (.slice B m d))
    (((with_reducible refine three_cells (T := 26) ?_); (repeat (first | with_reducible exact unhide HK2 | with_reducible exact unhide HK1 | with_reducible exact unhide HK0 | with_reducible refine Whl.drew ?_))))
    (first
      | (go_at_call 40; (with_reducible refine Calls.mono (pick_any g n c b A xs mm w2.drew (Cur.drew (unhide HC0)) hn HB2 hm1 hm2) ?_); rintro e wy ⟨y, rfl, _, hC, hg⟩; have HC1 := hide hC; have HG1 : Hid (w.grownBy wy (some g)) := hide (grownBy_trans (by (repeat (first | with_reducible exact unhide HG0 | with_reducible refine grown_dr ?_))) hg); have HK1 : Hid (Whl wy gm 26 #[.int .i64 st, .int .i64 sa, .slice B m d]) := hide (Whl.gr (by (repeat (first | with_reducible exact unhide HK0 | with_reducible refine Whl.drew ?_))) hg hne1); clear hC hg)
      | (go_at_call 40; (with_reducible refine Calls.mono (unhide HP9 wy (unhide HC1)) ?_); rintro e wv ⟨v, rfl, _, hC, hg⟩; have HC2 := hide hC; have HG2 : Hid (w.grownBy wv (some g)) := hide (grownBy_trans (by (repeat (first | with_reducible exact unhide HG1 | with_reducible refine grown_dr ?_))) hg); have HK2 : Hid (Whl wv gm 26 #[.int .i64 st, .int .i64 sa, .slice B m d]) := hide (Whl.gr (by (repeat (first | with_reducible exact unhide HK1 | with_reducible refine Whl.drew ?_))) hg hne1); clear hC hg))
  all_goals
    go_wp2_with fail
    go_ret
    exact ⟨_, rfl, trivial, (unhide HC2).more (by omega), unhide HG2⟩

end Go.Proofs.YtdpmpdhhjmbbcaaGreatDoor
