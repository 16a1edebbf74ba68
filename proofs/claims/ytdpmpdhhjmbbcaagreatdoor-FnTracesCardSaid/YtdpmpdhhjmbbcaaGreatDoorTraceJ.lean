/- Chapter 2, the walks: two traces joined: the program's. (By gen_traceJ.py.) -/
import Derived.Test.YtdpmpdhhjmbbcaaGreatDoorProg
import Derived.Test.YtdpmpdhhjmbbcaaGreatDoorTraceI
namespace Go.Proofs.YtdpmpdhhjmbbcaaGreatDoor
open Go.RowKit

set_option maxHeartbeats 4000000 in
set_option maxRecDepth 100000 in
theorem implJoin_any (sa1 ta : Int) (A : Option Addr) (n c : Nat) (xs : List Int) (sb tb : Int) (B : Option Addr) (m d : Nat) (ys : List Int) (w : World) (hr : RI w w.heap.size A n xs) (hn : n ≤ 1048576) (hr2 : RI w w.heap.size B m ys) (hm : m ≤ 1048576) :
    Calls Tryz.prog 12 #[.agg #[.int .i64 sa1, .int .i64 ta, .slice A n c], .agg #[.int .i64 sb, .int .i64 tb, .slice B m d]] w (RetTB w (joinR sa1 ta xs sb tb ys).1 (joinR sa1 ta xs sb tb ys).2.1 (joinR sa1 ta xs sb tb ys).2.2.1 (joinR sa1 ta xs sb tb ys).2.2.2) := by
  have HL := hide hr.len
  have HL2 := hide hr2.len
  have K0 := hide (((Whl.here w 26 #[.int .i64 sa1, .int .i64 ta, .slice A n c]).alloc (.cells #[.int .i64 sb, .int .i64 tb, .slice B m d] 26)).alloc (.cells #[.int .i64 0, .int .i64 0, .slice none 0 0] 26))
  have L0 : Hid (Whl (((w.alloc (.cells #[.int .i64 sa1, .int .i64 ta, .slice A n c] 26)).alloc (.cells #[.int .i64 sb, .int .i64 tb, .slice B m d] 26)).alloc (.cells #[.int .i64 0, .int .i64 0, .slice none 0 0] 26)) (w.heap.size + 1) 26 #[.int .i64 sb, .int .i64 tb, .slice B m d]) := by have := (Whl.here (w.alloc (.cells #[.int .i64 sa1, .int .i64 ta, .slice A n c] 26)) 26 #[.int .i64 sb, .int .i64 tb, .slice B m d]).alloc (.cells #[.int .i64 0, .int .i64 0, .slice none 0 0] 26); rwa [show (w.alloc (.cells #[.int .i64 sa1, .int .i64 ta, .slice A n c] 26)).heap.size = w.heap.size + 1 by simp] at this
  have Z0 : Hid (Whl (((w.alloc (.cells #[.int .i64 sa1, .int .i64 ta, .slice A n c] 26)).alloc (.cells #[.int .i64 sb, .int .i64 tb, .slice B m d] 26)).alloc (.cells #[.int .i64 0, .int .i64 0, .slice none 0 0] 26)) (w.heap.size + 1 + 1) 26 #[.int .i64 0, .int .i64 0, .slice none 0 0]) := by have := Whl.here ((w.alloc (.cells #[.int .i64 sa1, .int .i64 ta, .slice A n c] 26)).alloc (.cells #[.int .i64 sb, .int .i64 tb, .slice B m d] 26)) 26 #[.int .i64 0, .int .i64 0, .slice none 0 0]; rwa [show ((w.alloc (.cells #[.int .i64 sa1, .int .i64 ta, .slice A n c] 26)).alloc (.cells #[.int .i64 sb, .int .i64 tb, .slice B m d] 26)).heap.size = w.heap.size + 1 + 1 by simp] at this
  have HX := hide hr
  have HY := hide hr2
  have HB0 : Hid (Below w.heap.size w (((w.alloc (.cells #[.int .i64 sa1, .int .i64 ta, .slice A n c] 26)).alloc (.cells #[.int .i64 sb, .int .i64 tb, .slice B m d] 26)).alloc (.cells #[.int .i64 0, .int .i64 0, .slice none 0 0] 26))) := (((Below.refl _ w).alloc (Nat.le_refl _) _).alloc (by simp) _).alloc (by simp <;> omega) _
  have HGA := hide (fun (W : World) (hb : Below w.heap.size w W) => implIsTrace_any sa1 ta A n c xs W ((hr.below hb).more hb.size) hn)
  have HGB := hide (fun (W : World) (hb : Below w.heap.size w W) => implIsTrace_any sb tb B m d ys W ((hr2.below hb).more hb.size) hm)
  have HGC := hide (fun (A' : Option Addr) (p c' : Nat) (W : World) (h : RI W W.heap.size A' p (xs ++ ys)) (hp : p ≤ 1048576) => implIsTrace_any sa1 ta A' p c' (xs ++ ys) W h hp)
  clear hr hr2
  rcases h1 : goodB sa1 ta xs with _ | _
  · skip
    rw [h1] at HGA
    have HRR : Hid (joinR sa1 ta xs sb tb ys = (0, 0, [], false)) := by unfold Hid joinR; rw [h1]; rfl
    go_enter Tryz.func12, Tryz.ntmps12
    have qa0 : ∀ s : Abv (((w.alloc (.cells #[.int .i64 sa1, .int .i64 ta, .slice A n c] 26)).alloc (.cells #[.int .i64 sb, .int .i64 tb, .slice B m d] 26)).alloc (.cells #[.int .i64 0, .int .i64 0, .slice none 0 0] 26)), s.w.cell? ⟨w.heap.size, 0, none⟩ = some (.int .i64 sa1) := Abv.cell (unhide K0).lt ((unhide K0).cell 0)
    have qa1 : ∀ s : Abv (((w.alloc (.cells #[.int .i64 sa1, .int .i64 ta, .slice A n c] 26)).alloc (.cells #[.int .i64 sb, .int .i64 tb, .slice B m d] 26)).alloc (.cells #[.int .i64 0, .int .i64 0, .slice none 0 0] 26)), s.w.cell? ⟨w.heap.size, 1, none⟩ = some (.int .i64 ta) := Abv.cell (unhide K0).lt ((unhide K0).cell 1)
    have qa2 : ∀ s : Abv (((w.alloc (.cells #[.int .i64 sa1, .int .i64 ta, .slice A n c] 26)).alloc (.cells #[.int .i64 sb, .int .i64 tb, .slice B m d] 26)).alloc (.cells #[.int .i64 0, .int .i64 0, .slice none 0 0] 26)), s.w.cell? ⟨w.heap.size, 2, none⟩ = some (.slice A n c) := Abv.cell (unhide K0).lt ((unhide K0).cell 2)
    have qb0 : ∀ s : Abv (((w.alloc (.cells #[.int .i64 sa1, .int .i64 ta, .slice A n c] 26)).alloc (.cells #[.int .i64 sb, .int .i64 tb, .slice B m d] 26)).alloc (.cells #[.int .i64 0, .int .i64 0, .slice none 0 0] 26)), s.w.cell? ⟨w.heap.size + 1, 0, none⟩ = some (.int .i64 sb) := Abv.cell (unhide L0).lt ((unhide L0).cell 0)
    have qb1 : ∀ s : Abv (((w.alloc (.cells #[.int .i64 sa1, .int .i64 ta, .slice A n c] 26)).alloc (.cells #[.int .i64 sb, .int .i64 tb, .slice B m d] 26)).alloc (.cells #[.int .i64 0, .int .i64 0, .slice none 0 0] 26)), s.w.cell? ⟨w.heap.size + 1, 1, none⟩ = some (.int .i64 tb) := Abv.cell (unhide L0).lt ((unhide L0).cell 1)
    have qb2 : ∀ s : Abv (((w.alloc (.cells #[.int .i64 sa1, .int .i64 ta, .slice A n c] 26)).alloc (.cells #[.int .i64 sb, .int .i64 tb, .slice B m d] 26)).alloc (.cells #[.int .i64 0, .int .i64 0, .slice none 0 0] 26)), s.w.cell? ⟨w.heap.size + 1, 2, none⟩ = some (.slice B m d) := Abv.cell (unhide L0).lt ((unhide L0).cell 2)
    have HGAs := hide (fun s : Abv (((w.alloc (.cells #[.int .i64 sa1, .int .i64 ta, .slice A n c] 26)).alloc (.cells #[.int .i64 sb, .int .i64 tb, .slice B m d] 26)).alloc (.cells #[.int .i64 0, .int .i64 0, .slice none 0 0] 26)) => unhide HGA s.w (below_three s.h))
    have HGBs := hide (fun s : Abv (((w.alloc (.cells #[.int .i64 sa1, .int .i64 ta, .slice A n c] 26)).alloc (.cells #[.int .i64 sb, .int .i64 tb, .slice B m d] 26)).alloc (.cells #[.int .i64 0, .int .i64 0, .slice none 0 0] 26)) => unhide HGB s.w (below_three s.h))
    go_wp2_with fail
    refine wp_region_abv (((w.alloc (.cells #[.int .i64 sa1, .int .i64 ta, .slice A n c] 26)).alloc (.cells #[.int .i64 sb, .int .i64 tb, .slice B m d] 26)).alloc (.cells #[.int .i64 0, .int .i64 0, .slice none 0 0] 26)) (by kernel_rfl) (by kernel_rfl) (Below.refl _ _) ?_
    repeat (go_big_quiet_step ((first | (go_at_call 9; first | with_reducible exact Calls.abv (unhide HGAs _) | with_reducible exact Calls.abv (unhide HGBs _)))))
    refine wpQuiet_nil ?_
    intro _ hw'
    obtain ⟨sv, hw''⟩ := hw'
    subst hw''
    clear qa0 qa1 qa2 qb0 qb1 qb2 HGAs HGBs
    have HBr := hide (below_three sv.h)
    have Kr := hide ((unhide K0).below sv.h)
    have Lr := hide ((unhide L0).below sv.h)
    have Zr := hide ((unhide Z0).below sv.h)
    generalize sv.w = wv at *
    clear sv
    have a0 : wv.cell? ⟨w.heap.size, 0, none⟩ = some (.int .i64 sa1) := (unhide Kr).cell 0
    have a1 : wv.cell? ⟨w.heap.size, 1, none⟩ = some (.int .i64 ta) := (unhide Kr).cell 1
    have a2 : wv.cell? ⟨w.heap.size, 2, none⟩ = some (.slice A n c) := (unhide Kr).cell 2
    have b0 : wv.cell? ⟨w.heap.size + 1, 0, none⟩ = some (.int .i64 sb) := (unhide Lr).cell 0
    have b1 : wv.cell? ⟨w.heap.size + 1, 1, none⟩ = some (.int .i64 tb) := (unhide Lr).cell 1
    have b2 : wv.cell? ⟨w.heap.size + 1, 2, none⟩ = some (.slice B m d) := (unhide Lr).cell 2
    have z0 : wv.cell? ⟨w.heap.size + 1 + 1, 0, none⟩ = some (.int .i64 0) := (unhide Zr).cell 0
    have z1 : wv.cell? ⟨w.heap.size + 1 + 1, 1, none⟩ = some (.int .i64 0) := (unhide Zr).cell 1
    have z2 : wv.cell? ⟨w.heap.size + 1 + 1, 2, none⟩ = some (.slice none 0 0) := (unhide Zr).cell 2
    have zf0 : wv.frozen? ⟨w.heap.size + 1 + 1, 0, none⟩ = false := (unhide Zr).frozen 0
    have zf1 : wv.frozen? ⟨w.heap.size + 1 + 1, 1, none⟩ = false := (unhide Zr).frozen 1
    have zf2 : wv.frozen? ⟨w.heap.size + 1 + 1, 2, none⟩ = false := (unhide Zr).frozen 2
    have p0 := (unhide Kr).lt
    have p1 := (unhide Lr).lt
    have p2 := (unhide Zr).lt
    go_wp2_with fail
    refine bodyPost_ret (v := .tuple #[.agg #[.int .i64 0, .int .i64 0, .slice none 0 0], .bool false]) (by simp [results, Tryz.results12, go_sem, *]) rfl ?_
    rw [unhide HRR]
    exact ⟨none, 0, 0, rfl, OwnI.nil _ _, below_set3 (unhide HBr) (by omega) _ _ _⟩
  · obtain ⟨_, ⟨g0, g1⟩, hsx, _⟩ := goodB_parts h1
    have hn24 : n ≤ 24 := by have := smpB_len hsx; have := unhide HL; omega
    clear hsx
    rw [h1] at HGA
    rcases h2 : goodB sb tb ys with _ | _
    · skip
      rw [h2] at HGB
      have HRR : Hid (joinR sa1 ta xs sb tb ys = (0, 0, [], false)) := by unfold Hid joinR; rw [h1, h2]; rfl
      go_enter Tryz.func12, Tryz.ntmps12
      have qa0 : ∀ s : Abv (((w.alloc (.cells #[.int .i64 sa1, .int .i64 ta, .slice A n c] 26)).alloc (.cells #[.int .i64 sb, .int .i64 tb, .slice B m d] 26)).alloc (.cells #[.int .i64 0, .int .i64 0, .slice none 0 0] 26)), s.w.cell? ⟨w.heap.size, 0, none⟩ = some (.int .i64 sa1) := Abv.cell (unhide K0).lt ((unhide K0).cell 0)
      have qa1 : ∀ s : Abv (((w.alloc (.cells #[.int .i64 sa1, .int .i64 ta, .slice A n c] 26)).alloc (.cells #[.int .i64 sb, .int .i64 tb, .slice B m d] 26)).alloc (.cells #[.int .i64 0, .int .i64 0, .slice none 0 0] 26)), s.w.cell? ⟨w.heap.size, 1, none⟩ = some (.int .i64 ta) := Abv.cell (unhide K0).lt ((unhide K0).cell 1)
      have qa2 : ∀ s : Abv (((w.alloc (.cells #[.int .i64 sa1, .int .i64 ta, .slice A n c] 26)).alloc (.cells #[.int .i64 sb, .int .i64 tb, .slice B m d] 26)).alloc (.cells #[.int .i64 0, .int .i64 0, .slice none 0 0] 26)), s.w.cell? ⟨w.heap.size, 2, none⟩ = some (.slice A n c) := Abv.cell (unhide K0).lt ((unhide K0).cell 2)
      have qb0 : ∀ s : Abv (((w.alloc (.cells #[.int .i64 sa1, .int .i64 ta, .slice A n c] 26)).alloc (.cells #[.int .i64 sb, .int .i64 tb, .slice B m d] 26)).alloc (.cells #[.int .i64 0, .int .i64 0, .slice none 0 0] 26)), s.w.cell? ⟨w.heap.size + 1, 0, none⟩ = some (.int .i64 sb) := Abv.cell (unhide L0).lt ((unhide L0).cell 0)
      have qb1 : ∀ s : Abv (((w.alloc (.cells #[.int .i64 sa1, .int .i64 ta, .slice A n c] 26)).alloc (.cells #[.int .i64 sb, .int .i64 tb, .slice B m d] 26)).alloc (.cells #[.int .i64 0, .int .i64 0, .slice none 0 0] 26)), s.w.cell? ⟨w.heap.size + 1, 1, none⟩ = some (.int .i64 tb) := Abv.cell (unhide L0).lt ((unhide L0).cell 1)
      have qb2 : ∀ s : Abv (((w.alloc (.cells #[.int .i64 sa1, .int .i64 ta, .slice A n c] 26)).alloc (.cells #[.int .i64 sb, .int .i64 tb, .slice B m d] 26)).alloc (.cells #[.int .i64 0, .int .i64 0, .slice none 0 0] 26)), s.w.cell? ⟨w.heap.size + 1, 2, none⟩ = some (.slice B m d) := Abv.cell (unhide L0).lt ((unhide L0).cell 2)
      have HGAs := hide (fun s : Abv (((w.alloc (.cells #[.int .i64 sa1, .int .i64 ta, .slice A n c] 26)).alloc (.cells #[.int .i64 sb, .int .i64 tb, .slice B m d] 26)).alloc (.cells #[.int .i64 0, .int .i64 0, .slice none 0 0] 26)) => unhide HGA s.w (below_three s.h))
      have HGBs := hide (fun s : Abv (((w.alloc (.cells #[.int .i64 sa1, .int .i64 ta, .slice A n c] 26)).alloc (.cells #[.int .i64 sb, .int .i64 tb, .slice B m d] 26)).alloc (.cells #[.int .i64 0, .int .i64 0, .slice none 0 0] 26)) => unhide HGB s.w (below_three s.h))
      go_wp2_with fail
      refine wp_region_abv (((w.alloc (.cells #[.int .i64 sa1, .int .i64 ta, .slice A n c] 26)).alloc (.cells #[.int .i64 sb, .int .i64 tb, .slice B m d] 26)).alloc (.cells #[.int .i64 0, .int .i64 0, .slice none 0 0] 26)) (by kernel_rfl) (by kernel_rfl) (Below.refl _ _) ?_
      repeat (go_big_quiet_step ((first | (go_at_call 9; first | with_reducible exact Calls.abv (unhide HGAs _) | with_reducible exact Calls.abv (unhide HGBs _)))))
      refine wpQuiet_nil ?_
      intro _ hw'
      obtain ⟨sv, hw''⟩ := hw'
      subst hw''
      clear qa0 qa1 qa2 qb0 qb1 qb2 HGAs HGBs
      have HBr := hide (below_three sv.h)
      have Kr := hide ((unhide K0).below sv.h)
      have Lr := hide ((unhide L0).below sv.h)
      have Zr := hide ((unhide Z0).below sv.h)
      generalize sv.w = wv at *
      clear sv
      have a0 : wv.cell? ⟨w.heap.size, 0, none⟩ = some (.int .i64 sa1) := (unhide Kr).cell 0
      have a1 : wv.cell? ⟨w.heap.size, 1, none⟩ = some (.int .i64 ta) := (unhide Kr).cell 1
      have a2 : wv.cell? ⟨w.heap.size, 2, none⟩ = some (.slice A n c) := (unhide Kr).cell 2
      have b0 : wv.cell? ⟨w.heap.size + 1, 0, none⟩ = some (.int .i64 sb) := (unhide Lr).cell 0
      have b1 : wv.cell? ⟨w.heap.size + 1, 1, none⟩ = some (.int .i64 tb) := (unhide Lr).cell 1
      have b2 : wv.cell? ⟨w.heap.size + 1, 2, none⟩ = some (.slice B m d) := (unhide Lr).cell 2
      have z0 : wv.cell? ⟨w.heap.size + 1 + 1, 0, none⟩ = some (.int .i64 0) := (unhide Zr).cell 0
      have z1 : wv.cell? ⟨w.heap.size + 1 + 1, 1, none⟩ = some (.int .i64 0) := (unhide Zr).cell 1
      have z2 : wv.cell? ⟨w.heap.size + 1 + 1, 2, none⟩ = some (.slice none 0 0) := (unhide Zr).cell 2
      have zf0 : wv.frozen? ⟨w.heap.size + 1 + 1, 0, none⟩ = false := (unhide Zr).frozen 0
      have zf1 : wv.frozen? ⟨w.heap.size + 1 + 1, 1, none⟩ = false := (unhide Zr).frozen 1
      have zf2 : wv.frozen? ⟨w.heap.size + 1 + 1, 2, none⟩ = false := (unhide Zr).frozen 2
      have p0 := (unhide Kr).lt
      have p1 := (unhide Lr).lt
      have p2 := (unhide Zr).lt
      go_wp2_with fail
      refine bodyPost_ret (v := .tuple #[.agg #[.int .i64 0, .int .i64 0, .slice none 0 0], .bool false]) (by simp [results, Tryz.results12, go_sem, *]) rfl ?_
      rw [unhide HRR]
      exact ⟨none, 0, 0, rfl, OwnI.nil _ _, below_set3 (unhide HBr) (by omega) _ _ _⟩
    · obtain ⟨_, ⟨j0, j1⟩, hsy, _⟩ := goodB_parts h2
      have hm24 : m ≤ 24 := by have := smpB_len hsy; have := unhide HL2; omega
      clear hsy
      rw [h2] at HGB
      rcases t1 : (sa1 != sb) with _ | _
      · skip
        obtain hz | hpos := Nat.eq_zero_or_pos n
        · have tz : ((n : Int) == 0) = true := by simp; omega
          have HZ9 := hide hz
          clear hz
          have HRR : Hid (joinR sa1 ta xs sb tb ys = (0, 0, [], false)) := by unfold Hid joinR; rw [unhide HL, unhide HZ9]; simp
          go_enter Tryz.func12, Tryz.ntmps12
          have qa0 : ∀ s : Abv (((w.alloc (.cells #[.int .i64 sa1, .int .i64 ta, .slice A n c] 26)).alloc (.cells #[.int .i64 sb, .int .i64 tb, .slice B m d] 26)).alloc (.cells #[.int .i64 0, .int .i64 0, .slice none 0 0] 26)), s.w.cell? ⟨w.heap.size, 0, none⟩ = some (.int .i64 sa1) := Abv.cell (unhide K0).lt ((unhide K0).cell 0)
          have qa1 : ∀ s : Abv (((w.alloc (.cells #[.int .i64 sa1, .int .i64 ta, .slice A n c] 26)).alloc (.cells #[.int .i64 sb, .int .i64 tb, .slice B m d] 26)).alloc (.cells #[.int .i64 0, .int .i64 0, .slice none 0 0] 26)), s.w.cell? ⟨w.heap.size, 1, none⟩ = some (.int .i64 ta) := Abv.cell (unhide K0).lt ((unhide K0).cell 1)
          have qa2 : ∀ s : Abv (((w.alloc (.cells #[.int .i64 sa1, .int .i64 ta, .slice A n c] 26)).alloc (.cells #[.int .i64 sb, .int .i64 tb, .slice B m d] 26)).alloc (.cells #[.int .i64 0, .int .i64 0, .slice none 0 0] 26)), s.w.cell? ⟨w.heap.size, 2, none⟩ = some (.slice A n c) := Abv.cell (unhide K0).lt ((unhide K0).cell 2)
          have qb0 : ∀ s : Abv (((w.alloc (.cells #[.int .i64 sa1, .int .i64 ta, .slice A n c] 26)).alloc (.cells #[.int .i64 sb, .int .i64 tb, .slice B m d] 26)).alloc (.cells #[.int .i64 0, .int .i64 0, .slice none 0 0] 26)), s.w.cell? ⟨w.heap.size + 1, 0, none⟩ = some (.int .i64 sb) := Abv.cell (unhide L0).lt ((unhide L0).cell 0)
          have qb1 : ∀ s : Abv (((w.alloc (.cells #[.int .i64 sa1, .int .i64 ta, .slice A n c] 26)).alloc (.cells #[.int .i64 sb, .int .i64 tb, .slice B m d] 26)).alloc (.cells #[.int .i64 0, .int .i64 0, .slice none 0 0] 26)), s.w.cell? ⟨w.heap.size + 1, 1, none⟩ = some (.int .i64 tb) := Abv.cell (unhide L0).lt ((unhide L0).cell 1)
          have qb2 : ∀ s : Abv (((w.alloc (.cells #[.int .i64 sa1, .int .i64 ta, .slice A n c] 26)).alloc (.cells #[.int .i64 sb, .int .i64 tb, .slice B m d] 26)).alloc (.cells #[.int .i64 0, .int .i64 0, .slice none 0 0] 26)), s.w.cell? ⟨w.heap.size + 1, 2, none⟩ = some (.slice B m d) := Abv.cell (unhide L0).lt ((unhide L0).cell 2)
          have HGAs := hide (fun s : Abv (((w.alloc (.cells #[.int .i64 sa1, .int .i64 ta, .slice A n c] 26)).alloc (.cells #[.int .i64 sb, .int .i64 tb, .slice B m d] 26)).alloc (.cells #[.int .i64 0, .int .i64 0, .slice none 0 0] 26)) => unhide HGA s.w (below_three s.h))
          have HGBs := hide (fun s : Abv (((w.alloc (.cells #[.int .i64 sa1, .int .i64 ta, .slice A n c] 26)).alloc (.cells #[.int .i64 sb, .int .i64 tb, .slice B m d] 26)).alloc (.cells #[.int .i64 0, .int .i64 0, .slice none 0 0] 26)) => unhide HGB s.w (below_three s.h))
          go_wp2_with fail
          refine wp_region_abv (((w.alloc (.cells #[.int .i64 sa1, .int .i64 ta, .slice A n c] 26)).alloc (.cells #[.int .i64 sb, .int .i64 tb, .slice B m d] 26)).alloc (.cells #[.int .i64 0, .int .i64 0, .slice none 0 0] 26)) (by kernel_rfl) (by kernel_rfl) (Below.refl _ _) ?_
          repeat (go_big_quiet_step ((first | (go_at_call 9; first | with_reducible exact Calls.abv (unhide HGAs _) | with_reducible exact Calls.abv (unhide HGBs _)))))
          refine wpQuiet_nil ?_
          intro _ hw'
          obtain ⟨sv, hw''⟩ := hw'
          subst hw''
          clear qa0 qa1 qa2 qb0 qb1 qb2 HGAs HGBs
          have HBr := hide (below_three sv.h)
          have Kr := hide ((unhide K0).below sv.h)
          have Lr := hide ((unhide L0).below sv.h)
          have Zr := hide ((unhide Z0).below sv.h)
          generalize sv.w = wv at *
          clear sv
          have a0 : wv.cell? ⟨w.heap.size, 0, none⟩ = some (.int .i64 sa1) := (unhide Kr).cell 0
          have a1 : wv.cell? ⟨w.heap.size, 1, none⟩ = some (.int .i64 ta) := (unhide Kr).cell 1
          have a2 : wv.cell? ⟨w.heap.size, 2, none⟩ = some (.slice A n c) := (unhide Kr).cell 2
          have b0 : wv.cell? ⟨w.heap.size + 1, 0, none⟩ = some (.int .i64 sb) := (unhide Lr).cell 0
          have b1 : wv.cell? ⟨w.heap.size + 1, 1, none⟩ = some (.int .i64 tb) := (unhide Lr).cell 1
          have b2 : wv.cell? ⟨w.heap.size + 1, 2, none⟩ = some (.slice B m d) := (unhide Lr).cell 2
          have z0 : wv.cell? ⟨w.heap.size + 1 + 1, 0, none⟩ = some (.int .i64 0) := (unhide Zr).cell 0
          have z1 : wv.cell? ⟨w.heap.size + 1 + 1, 1, none⟩ = some (.int .i64 0) := (unhide Zr).cell 1
          have z2 : wv.cell? ⟨w.heap.size + 1 + 1, 2, none⟩ = some (.slice none 0 0) := (unhide Zr).cell 2
          have zf0 : wv.frozen? ⟨w.heap.size + 1 + 1, 0, none⟩ = false := (unhide Zr).frozen 0
          have zf1 : wv.frozen? ⟨w.heap.size + 1 + 1, 1, none⟩ = false := (unhide Zr).frozen 1
          have zf2 : wv.frozen? ⟨w.heap.size + 1 + 1, 2, none⟩ = false := (unhide Zr).frozen 2
          have p0 := (unhide Kr).lt
          have p1 := (unhide Lr).lt
          have p2 := (unhide Zr).lt
          go_wp2_with fail
          refine bodyPost_ret (v := .tuple #[.agg #[.int .i64 0, .int .i64 0, .slice none 0 0], .bool false]) (by simp [results, Tryz.results12, go_sem, *]) rfl ?_
          rw [unhide HRR]
          exact ⟨none, 0, 0, rfl, OwnI.nil _ _, below_set3 (unhide HBr) (by omega) _ _ _⟩
        · have tz : ((n : Int) == 0) = false := by simp; omega
          rcases t2 : (tb != ta + (n : Int)) with _ | _
          · skip
            have HRR : Hid (∀ r, goodB sa1 ta (xs ++ ys) = r → joinR sa1 ta xs sb tb ys = if r = true then (sa1, ta, xs ++ ys, true) else (0, 0, [], false)) := by
              intro r hr
              unfold joinR
              rw [h1, h2, t1, unhide HL, t2, hr, decide_eq_false (by omega : ¬ n = 0)]; simp
            have tq : (tb != ta + (n : Int) - 1 + 1) = false := by rw [show ta + (n : Int) - 1 + 1 = ta + n by omega]; exact t2
            go_enter Tryz.func12, Tryz.ntmps12
            have qa0 : ∀ s : Abv (((w.alloc (.cells #[.int .i64 sa1, .int .i64 ta, .slice A n c] 26)).alloc (.cells #[.int .i64 sb, .int .i64 tb, .slice B m d] 26)).alloc (.cells #[.int .i64 0, .int .i64 0, .slice none 0 0] 26)), s.w.cell? ⟨w.heap.size, 0, none⟩ = some (.int .i64 sa1) := Abv.cell (unhide K0).lt ((unhide K0).cell 0)
            have qa1 : ∀ s : Abv (((w.alloc (.cells #[.int .i64 sa1, .int .i64 ta, .slice A n c] 26)).alloc (.cells #[.int .i64 sb, .int .i64 tb, .slice B m d] 26)).alloc (.cells #[.int .i64 0, .int .i64 0, .slice none 0 0] 26)), s.w.cell? ⟨w.heap.size, 1, none⟩ = some (.int .i64 ta) := Abv.cell (unhide K0).lt ((unhide K0).cell 1)
            have qa2 : ∀ s : Abv (((w.alloc (.cells #[.int .i64 sa1, .int .i64 ta, .slice A n c] 26)).alloc (.cells #[.int .i64 sb, .int .i64 tb, .slice B m d] 26)).alloc (.cells #[.int .i64 0, .int .i64 0, .slice none 0 0] 26)), s.w.cell? ⟨w.heap.size, 2, none⟩ = some (.slice A n c) := Abv.cell (unhide K0).lt ((unhide K0).cell 2)
            have qb0 : ∀ s : Abv (((w.alloc (.cells #[.int .i64 sa1, .int .i64 ta, .slice A n c] 26)).alloc (.cells #[.int .i64 sb, .int .i64 tb, .slice B m d] 26)).alloc (.cells #[.int .i64 0, .int .i64 0, .slice none 0 0] 26)), s.w.cell? ⟨w.heap.size + 1, 0, none⟩ = some (.int .i64 sb) := Abv.cell (unhide L0).lt ((unhide L0).cell 0)
            have qb1 : ∀ s : Abv (((w.alloc (.cells #[.int .i64 sa1, .int .i64 ta, .slice A n c] 26)).alloc (.cells #[.int .i64 sb, .int .i64 tb, .slice B m d] 26)).alloc (.cells #[.int .i64 0, .int .i64 0, .slice none 0 0] 26)), s.w.cell? ⟨w.heap.size + 1, 1, none⟩ = some (.int .i64 tb) := Abv.cell (unhide L0).lt ((unhide L0).cell 1)
            have qb2 : ∀ s : Abv (((w.alloc (.cells #[.int .i64 sa1, .int .i64 ta, .slice A n c] 26)).alloc (.cells #[.int .i64 sb, .int .i64 tb, .slice B m d] 26)).alloc (.cells #[.int .i64 0, .int .i64 0, .slice none 0 0] 26)), s.w.cell? ⟨w.heap.size + 1, 2, none⟩ = some (.slice B m d) := Abv.cell (unhide L0).lt ((unhide L0).cell 2)
            have HGAs := hide (fun s : Abv (((w.alloc (.cells #[.int .i64 sa1, .int .i64 ta, .slice A n c] 26)).alloc (.cells #[.int .i64 sb, .int .i64 tb, .slice B m d] 26)).alloc (.cells #[.int .i64 0, .int .i64 0, .slice none 0 0] 26)) => unhide HGA s.w (below_three s.h))
            have HGBs := hide (fun s : Abv (((w.alloc (.cells #[.int .i64 sa1, .int .i64 ta, .slice A n c] 26)).alloc (.cells #[.int .i64 sb, .int .i64 tb, .slice B m d] 26)).alloc (.cells #[.int .i64 0, .int .i64 0, .slice none 0 0] 26)) => unhide HGB s.w (below_three s.h))
            go_wp2_with fail
            refine wp_region_abv (((w.alloc (.cells #[.int .i64 sa1, .int .i64 ta, .slice A n c] 26)).alloc (.cells #[.int .i64 sb, .int .i64 tb, .slice B m d] 26)).alloc (.cells #[.int .i64 0, .int .i64 0, .slice none 0 0] 26)) (by kernel_rfl) (by kernel_rfl) (Below.refl _ _) ?_
            repeat (go_big_quiet_step ((first | (go_at_call 9; first | with_reducible exact Calls.abv (unhide HGAs _) | with_reducible exact Calls.abv (unhide HGBs _)) | (go_at_call 29; exact Calls.abv (last_any _ _ _ _ _ _ g0 g1 hn)))))
            refine wpQuiet_nil ?_
            intro _ hw'
            obtain ⟨sv, hw''⟩ := hw'
            subst hw''
            clear qa0 qa1 qa2 qb0 qb1 qb2 HGAs HGBs
            have HBr := hide (below_three sv.h)
            have Kr := hide ((unhide K0).below sv.h)
            have Lr := hide ((unhide L0).below sv.h)
            have Zr := hide ((unhide Z0).below sv.h)
            generalize sv.w = wv at *
            clear sv
            have a0 : wv.cell? ⟨w.heap.size, 0, none⟩ = some (.int .i64 sa1) := (unhide Kr).cell 0
            have a1 : wv.cell? ⟨w.heap.size, 1, none⟩ = some (.int .i64 ta) := (unhide Kr).cell 1
            have a2 : wv.cell? ⟨w.heap.size, 2, none⟩ = some (.slice A n c) := (unhide Kr).cell 2
            have b0 : wv.cell? ⟨w.heap.size + 1, 0, none⟩ = some (.int .i64 sb) := (unhide Lr).cell 0
            have b1 : wv.cell? ⟨w.heap.size + 1, 1, none⟩ = some (.int .i64 tb) := (unhide Lr).cell 1
            have b2 : wv.cell? ⟨w.heap.size + 1, 2, none⟩ = some (.slice B m d) := (unhide Lr).cell 2
            have z0 : wv.cell? ⟨w.heap.size + 1 + 1, 0, none⟩ = some (.int .i64 0) := (unhide Zr).cell 0
            have z1 : wv.cell? ⟨w.heap.size + 1 + 1, 1, none⟩ = some (.int .i64 0) := (unhide Zr).cell 1
            have z2 : wv.cell? ⟨w.heap.size + 1 + 1, 2, none⟩ = some (.slice none 0 0) := (unhide Zr).cell 2
            have zf0 : wv.frozen? ⟨w.heap.size + 1 + 1, 0, none⟩ = false := (unhide Zr).frozen 0
            have zf1 : wv.frozen? ⟨w.heap.size + 1 + 1, 1, none⟩ = false := (unhide Zr).frozen 1
            have zf2 : wv.frozen? ⟨w.heap.size + 1 + 1, 2, none⟩ = false := (unhide Zr).frozen 2
            have p0 := (unhide Kr).lt
            have p1 := (unhide Lr).lt
            have p2 := (unhide Zr).lt
            go_wp2_with fail
            go_cut [6] (fun s6 wx => ∃ (go p c' : Nat) (A' : Option Addr), s6 = .pointer (some ⟨go, 0, none⟩) ∧ Hid (Whl wx go 26 #[.int .i64 sa1, .int .i64 ta, .slice A' p c']) ∧ Hid (OwnI wx (w.heap.size + 3) A' p c' (xs ++ ys)) ∧ Hid (Whl wx (w.heap.size + 1 + 1) 26 #[.int .i64 0, .int .i64 0, .slice none 0 0]) ∧ Hid (Below w.heap.size w wx))
            case first =>
              have hn4 : n ≤ 1048576 := by omega
              have hm4 : m ≤ 1048576 := by omega
              have ne1 : w.heap.size ≠ wv.heap.size := by omega
              have ne1' : w.heap.size ≠ wv.heap.size + 1 := by omega
              have ne2 : w.heap.size + 1 ≠ wv.heap.size := by omega
              have ne2' : w.heap.size + 1 ≠ wv.heap.size + 1 := by omega
              have ne3 : w.heap.size + 1 + 1 ≠ wv.heap.size := by omega
              have ne3' : w.heap.size + 1 + 1 ≠ wv.heap.size + 1 := by omega
              have kk := unhide Kr
              have ll := unhide Lr
              go_region_held3 (fun w' => w'.cell? ⟨w.heap.size, 0, none⟩ = some (.int .i64 sa1) ∧ w'.cell? ⟨w.heap.size, 1, none⟩ = some (.int .i64 ta) ∧ w'.cell? ⟨w.heap.size, 2, none⟩ = some (.slice A n c) ∧ w'.cell? ⟨w.heap.size + 1, 2, none⟩ = some (.slice B m d))
                (((with_reducible refine four_cells (d := .int .i64 sb) (e := .int .i64 tb) ?_ ?_); (repeat (first | with_reducible exact unhide Ky | with_reducible exact unhide Ly | with_reducible exact kk | with_reducible exact ll | with_reducible exact far3 (unhide Ky) ne1 _ _ _ | with_reducible exact far3 (unhide Ly) ne2 _ _ _ | with_reducible exact far3 (unhide Ky) ne1' _ _ _ | with_reducible exact far3 (unhide Ly) ne2' _ _ _ | with_reducible refine Whl.alloc ?_ _ | with_reducible refine Whl.drew ?_))))
                (first
                  | (go_at_call 32; refine (Concat_two _ A B n m c d xs ys _ ?_ ?_ hpos hn4 hm4 ?_ ?_ ?_).mono ?_; (exact ((unhide HX).below (by repeat (first | exact unhide HBr | refine below_drewN ?_ _ | refine Below.drew ?_ | refine Below.alloc ?_ (by have := (unhide HBr).size; simp <;> omega) _))).more (by have := (unhide HBr).size; simp <;> omega)); (exact ((unhide HY).below (by repeat (first | exact unhide HBr | refine below_drewN ?_ _ | refine Below.drew ?_ | refine Below.alloc ?_ (by have := (unhide HBr).size; simp <;> omega) _))).more (by have := (unhide HBr).size; simp <;> omega)); (simp <;> omega); (simp); (simp); rintro e wy ⟨A2, n2, c2, rfl, hO, hby⟩; have Ky : Hid (Whl wy w.heap.size 26 #[.int .i64 sa1, .int .i64 ta, .slice A n c]) := hide (Whl.below (by repeat (first | exact kk | with_reducible refine Whl.alloc ?_ _ | with_reducible refine Whl.drew ?_)) hby); have Ly : Hid (Whl wy (w.heap.size + 1) 26 #[.int .i64 sb, .int .i64 tb, .slice B m d]) := hide (Whl.below (by repeat (first | exact ll | with_reducible refine Whl.alloc ?_ _ | with_reducible refine Whl.drew ?_)) hby); have Zy : Hid (Whl wy (w.heap.size + 1 + 1) 26 #[.int .i64 0, .int .i64 0, .slice none 0 0]) := hide (Whl.below (by repeat (first | exact unhide Zr | with_reducible refine Whl.alloc ?_ _ | with_reducible refine Whl.drew ?_)) hby); have HBy : Hid (Below w.heap.size w wy) := hide (below_next (by repeat (first | exact unhide HBr | refine below_drewN ?_ _ | refine Below.drew ?_ | refine Below.alloc ?_ (by have := (unhide HBr).size; simp <;> omega) _)) hby); have HOy : Hid (OwnI wy (w.heap.size + 3) A2 n2 c2 (xs ++ ys)) := hide (hO.less (by have := (unhide Zr).lt; simp <;> omega)); (first | (have Uy : Hid (Whl wy (wv.heap.size) 26 #[.int .i64 0, .int .i64 0, .slice none 0 0]) := hide (Whl.below (Whl.drew ((Whl.here wv 26 #[.int .i64 0, .int .i64 0, .slice none 0 0]).alloc _)) hby); have u0 : wy.cell? ⟨wv.heap.size, 0, none⟩ = some (.int .i64 0) := (unhide Uy).cell 0; have u1 : wy.cell? ⟨wv.heap.size, 1, none⟩ = some (.int .i64 0) := (unhide Uy).cell 1; have u2 : wy.cell? ⟨wv.heap.size, 2, none⟩ = some (.slice none 0 0) := (unhide Uy).cell 2; have uf0 : wy.frozen? ⟨wv.heap.size, 0, none⟩ = false := (unhide Uy).frozen 0; have uf1 : wy.frozen? ⟨wv.heap.size, 1, none⟩ = false := (unhide Uy).frozen 1; have uf2 : wy.frozen? ⟨wv.heap.size, 2, none⟩ = false := (unhide Uy).frozen 2; have ul := (unhide Uy).lt) | (have Uy : Hid (Whl wy (wv.heap.size + 1) 26 #[.int .i64 0, .int .i64 0, .slice none 0 0]) := hide (Whl.below (Whl.drew (Whl.here' (wv.alloc _) 26 #[.int .i64 0, .int .i64 0, .slice none 0 0] (size_alloc wv _).symm)) hby); have u0 : wy.cell? ⟨wv.heap.size + 1, 0, none⟩ = some (.int .i64 0) := (unhide Uy).cell 0; have u1 : wy.cell? ⟨wv.heap.size + 1, 1, none⟩ = some (.int .i64 0) := (unhide Uy).cell 1; have u2 : wy.cell? ⟨wv.heap.size + 1, 2, none⟩ = some (.slice none 0 0) := (unhide Uy).cell 2; have uf0 : wy.frozen? ⟨wv.heap.size + 1, 0, none⟩ = false := (unhide Uy).frozen 0; have uf1 : wy.frozen? ⟨wv.heap.size + 1, 1, none⟩ = false := (unhide Uy).frozen 1; have uf2 : wy.frozen? ⟨wv.heap.size + 1, 2, none⟩ = false := (unhide Uy).frozen 2; have ul := (unhide Uy).lt) | skip)))
              all_goals
                go_wp2_with fail
                go_meet
                have szy := (unhide HBy).size
                first | exact ⟨_, n2, c2, A2, rfl, hide (Whl.here _ _ _), (unhide HOy).alloc _, (unhide Zy).alloc _, (unhide HBy).alloc szy _⟩ | exact ⟨_, n2, c2, A2, rfl, hide ((((unhide Uy).store 0 _).store 1 _).store 2 _), own3 (unhide HOy) (unhide Uy) trace_ne_int' _ _ _, far3 (unhide Zy) ne3 _ _ _, below_set3 (unhide HBy) (by omega) _ _ _⟩ | exact ⟨_, n2, c2, A2, rfl, hide ((((unhide Uy).store 0 _).store 1 _).store 2 _), own3 (unhide HOy) (unhide Uy) trace_ne_int' _ _ _, far3 (unhide Zy) ne3' _ _ _, below_set3 (unhide HBy) (by omega) _ _ _⟩
            case rest =>
              obtain ⟨go, p, c', A', rfl, hU, hO, hZ, hB⟩ := hcut
              have hp : p ≤ 1048576 := by have h9 := (unhide hO).len; rw [List.length_append] at h9; have := unhide HL; have := unhide HL2; omega
              have o0 : wc.cell? ⟨go, 0, none⟩ = some (.int .i64 sa1) := (unhide hU).cell 0
              have o1 : wc.cell? ⟨go, 1, none⟩ = some (.int .i64 ta) := (unhide hU).cell 1
              have o2 : wc.cell? ⟨go, 2, none⟩ = some (.slice A' p c') := (unhide hU).cell 2
              have HC := hide (unhide HGC A' p c' _ (unhide hO).ri hp)
              rcases h3 : goodB sa1 ta (xs ++ ys) with _ | _
              · have HRR2 := hide (unhide HRR _ h3)
                rw [h3] at HC
                go_wp2_with fail
                refine (unhide HC).mono ?_
                rintro e w4 ⟨rfl, hb⟩
                have HZ4 := hide ((unhide hZ).below hb)
                have HU4 := hide ((unhide hU).below hb)
                have HB4 := hide (below_next (unhide hB) hb)
                have HO4 := hide (OwnI.below (unhide hO) hb (Nat.le_refl _))
                clear hb o0 o1 o2
                have d0 : w4.cell? ⟨w.heap.size + 1 + 1, 0, none⟩ = some (.int .i64 0) := (unhide HZ4).cell 0
                have d1 : w4.cell? ⟨w.heap.size + 1 + 1, 1, none⟩ = some (.int .i64 0) := (unhide HZ4).cell 1
                have d2 : w4.cell? ⟨w.heap.size + 1 + 1, 2, none⟩ = some (.slice none 0 0) := (unhide HZ4).cell 2
                have df0 : w4.frozen? ⟨w.heap.size + 1 + 1, 0, none⟩ = false := (unhide HZ4).frozen 0
                have df1 : w4.frozen? ⟨w.heap.size + 1 + 1, 1, none⟩ = false := (unhide HZ4).frozen 1
                have df2 : w4.frozen? ⟨w.heap.size + 1 + 1, 2, none⟩ = false := (unhide HZ4).frozen 2
                have o0 : w4.cell? ⟨go, 0, none⟩ = some (.int .i64 sa1) := (unhide HU4).cell 0
                have o1 : w4.cell? ⟨go, 1, none⟩ = some (.int .i64 ta) := (unhide HU4).cell 1
                have o2 : w4.cell? ⟨go, 2, none⟩ = some (.slice A' p c') := (unhide HU4).cell 2
                have of0 : w4.frozen? ⟨go, 0, none⟩ = false := (unhide HU4).frozen 0
                have of1 : w4.frozen? ⟨go, 1, none⟩ = false := (unhide HU4).frozen 1
                have of2 : w4.frozen? ⟨go, 2, none⟩ = false := (unhide HU4).frozen 2
                have su := (unhide HU4).lt
                have sz := (unhide HZ4).lt
                go_wp2_with fail
                refine bodyPost_ret (v := .tuple #[.agg #[.int .i64 0, .int .i64 0, .slice none 0 0], .bool false]) (by simp [results, Tryz.results12, go_sem, *]) rfl ?_
                rw [unhide HRR2]
                exact ⟨none, 0, 0, rfl, OwnI.nil _ _, below_set3 (unhide HB4) (by omega) _ _ _⟩
              · have HRR2 := hide (unhide HRR _ h3)
                rw [h3] at HC
                go_wp2_with fail
                refine (unhide HC).mono ?_
                rintro e w4 ⟨rfl, hb⟩
                have HZ4 := hide ((unhide hZ).below hb)
                have HU4 := hide ((unhide hU).below hb)
                have HB4 := hide (below_next (unhide hB) hb)
                have HO4 := hide (OwnI.below (unhide hO) hb (Nat.le_refl _))
                clear hb o0 o1 o2
                have d0 : w4.cell? ⟨w.heap.size + 1 + 1, 0, none⟩ = some (.int .i64 0) := (unhide HZ4).cell 0
                have d1 : w4.cell? ⟨w.heap.size + 1 + 1, 1, none⟩ = some (.int .i64 0) := (unhide HZ4).cell 1
                have d2 : w4.cell? ⟨w.heap.size + 1 + 1, 2, none⟩ = some (.slice none 0 0) := (unhide HZ4).cell 2
                have df0 : w4.frozen? ⟨w.heap.size + 1 + 1, 0, none⟩ = false := (unhide HZ4).frozen 0
                have df1 : w4.frozen? ⟨w.heap.size + 1 + 1, 1, none⟩ = false := (unhide HZ4).frozen 1
                have df2 : w4.frozen? ⟨w.heap.size + 1 + 1, 2, none⟩ = false := (unhide HZ4).frozen 2
                have o0 : w4.cell? ⟨go, 0, none⟩ = some (.int .i64 sa1) := (unhide HU4).cell 0
                have o1 : w4.cell? ⟨go, 1, none⟩ = some (.int .i64 ta) := (unhide HU4).cell 1
                have o2 : w4.cell? ⟨go, 2, none⟩ = some (.slice A' p c') := (unhide HU4).cell 2
                have of0 : w4.frozen? ⟨go, 0, none⟩ = false := (unhide HU4).frozen 0
                have of1 : w4.frozen? ⟨go, 1, none⟩ = false := (unhide HU4).frozen 1
                have of2 : w4.frozen? ⟨go, 2, none⟩ = false := (unhide HU4).frozen 2
                have su := (unhide HU4).lt
                have sz := (unhide HZ4).lt
                go_wp2_with fail
                refine bodyPost_ret (v := .tuple #[.agg #[.int .i64 sa1, .int .i64 ta, .slice A' p c'], .bool true]) (by simp [results, Tryz.results12, go_sem, d0, d1, d2, df0, df1, df2, o0, o1, o2, su, sz]) rfl ?_
                rw [unhide HRR2]
                exact ⟨A', p, c', rfl, ((((unhide HO4).setB (show w.heap.size + 1 + 1 < w.heap.size + 3 by omega) _).setB (show w.heap.size + 1 + 1 < w.heap.size + 3 by omega) _).setB (show w.heap.size + 1 + 1 < w.heap.size + 3 by omega) _).less (by omega), below_set3 (unhide HB4) (by omega) _ _ _⟩
          · skip
            have HRR : Hid (joinR sa1 ta xs sb tb ys = (0, 0, [], false)) := by unfold Hid joinR; rw [unhide HL, t2]; simp
            go_enter Tryz.func12, Tryz.ntmps12
            have qa0 : ∀ s : Abv (((w.alloc (.cells #[.int .i64 sa1, .int .i64 ta, .slice A n c] 26)).alloc (.cells #[.int .i64 sb, .int .i64 tb, .slice B m d] 26)).alloc (.cells #[.int .i64 0, .int .i64 0, .slice none 0 0] 26)), s.w.cell? ⟨w.heap.size, 0, none⟩ = some (.int .i64 sa1) := Abv.cell (unhide K0).lt ((unhide K0).cell 0)
            have qa1 : ∀ s : Abv (((w.alloc (.cells #[.int .i64 sa1, .int .i64 ta, .slice A n c] 26)).alloc (.cells #[.int .i64 sb, .int .i64 tb, .slice B m d] 26)).alloc (.cells #[.int .i64 0, .int .i64 0, .slice none 0 0] 26)), s.w.cell? ⟨w.heap.size, 1, none⟩ = some (.int .i64 ta) := Abv.cell (unhide K0).lt ((unhide K0).cell 1)
            have qa2 : ∀ s : Abv (((w.alloc (.cells #[.int .i64 sa1, .int .i64 ta, .slice A n c] 26)).alloc (.cells #[.int .i64 sb, .int .i64 tb, .slice B m d] 26)).alloc (.cells #[.int .i64 0, .int .i64 0, .slice none 0 0] 26)), s.w.cell? ⟨w.heap.size, 2, none⟩ = some (.slice A n c) := Abv.cell (unhide K0).lt ((unhide K0).cell 2)
            have qb0 : ∀ s : Abv (((w.alloc (.cells #[.int .i64 sa1, .int .i64 ta, .slice A n c] 26)).alloc (.cells #[.int .i64 sb, .int .i64 tb, .slice B m d] 26)).alloc (.cells #[.int .i64 0, .int .i64 0, .slice none 0 0] 26)), s.w.cell? ⟨w.heap.size + 1, 0, none⟩ = some (.int .i64 sb) := Abv.cell (unhide L0).lt ((unhide L0).cell 0)
            have qb1 : ∀ s : Abv (((w.alloc (.cells #[.int .i64 sa1, .int .i64 ta, .slice A n c] 26)).alloc (.cells #[.int .i64 sb, .int .i64 tb, .slice B m d] 26)).alloc (.cells #[.int .i64 0, .int .i64 0, .slice none 0 0] 26)), s.w.cell? ⟨w.heap.size + 1, 1, none⟩ = some (.int .i64 tb) := Abv.cell (unhide L0).lt ((unhide L0).cell 1)
            have qb2 : ∀ s : Abv (((w.alloc (.cells #[.int .i64 sa1, .int .i64 ta, .slice A n c] 26)).alloc (.cells #[.int .i64 sb, .int .i64 tb, .slice B m d] 26)).alloc (.cells #[.int .i64 0, .int .i64 0, .slice none 0 0] 26)), s.w.cell? ⟨w.heap.size + 1, 2, none⟩ = some (.slice B m d) := Abv.cell (unhide L0).lt ((unhide L0).cell 2)
            have HGAs := hide (fun s : Abv (((w.alloc (.cells #[.int .i64 sa1, .int .i64 ta, .slice A n c] 26)).alloc (.cells #[.int .i64 sb, .int .i64 tb, .slice B m d] 26)).alloc (.cells #[.int .i64 0, .int .i64 0, .slice none 0 0] 26)) => unhide HGA s.w (below_three s.h))
            have HGBs := hide (fun s : Abv (((w.alloc (.cells #[.int .i64 sa1, .int .i64 ta, .slice A n c] 26)).alloc (.cells #[.int .i64 sb, .int .i64 tb, .slice B m d] 26)).alloc (.cells #[.int .i64 0, .int .i64 0, .slice none 0 0] 26)) => unhide HGB s.w (below_three s.h))
            go_wp2_with fail
            refine wp_region_abv (((w.alloc (.cells #[.int .i64 sa1, .int .i64 ta, .slice A n c] 26)).alloc (.cells #[.int .i64 sb, .int .i64 tb, .slice B m d] 26)).alloc (.cells #[.int .i64 0, .int .i64 0, .slice none 0 0] 26)) (by kernel_rfl) (by kernel_rfl) (Below.refl _ _) ?_
            repeat (go_big_quiet_step ((first | (go_at_call 9; first | with_reducible exact Calls.abv (unhide HGAs _) | with_reducible exact Calls.abv (unhide HGBs _)) | (go_at_call 29; exact Calls.abv (last_any _ _ _ _ _ _ g0 g1 hn)))))
            refine wpQuiet_nil ?_
            intro _ hw'
            obtain ⟨sv, hw''⟩ := hw'
            subst hw''
            clear qa0 qa1 qa2 qb0 qb1 qb2 HGAs HGBs
            have HBr := hide (below_three sv.h)
            have Kr := hide ((unhide K0).below sv.h)
            have Lr := hide ((unhide L0).below sv.h)
            have Zr := hide ((unhide Z0).below sv.h)
            generalize sv.w = wv at *
            clear sv
            have a0 : wv.cell? ⟨w.heap.size, 0, none⟩ = some (.int .i64 sa1) := (unhide Kr).cell 0
            have a1 : wv.cell? ⟨w.heap.size, 1, none⟩ = some (.int .i64 ta) := (unhide Kr).cell 1
            have a2 : wv.cell? ⟨w.heap.size, 2, none⟩ = some (.slice A n c) := (unhide Kr).cell 2
            have b0 : wv.cell? ⟨w.heap.size + 1, 0, none⟩ = some (.int .i64 sb) := (unhide Lr).cell 0
            have b1 : wv.cell? ⟨w.heap.size + 1, 1, none⟩ = some (.int .i64 tb) := (unhide Lr).cell 1
            have b2 : wv.cell? ⟨w.heap.size + 1, 2, none⟩ = some (.slice B m d) := (unhide Lr).cell 2
            have z0 : wv.cell? ⟨w.heap.size + 1 + 1, 0, none⟩ = some (.int .i64 0) := (unhide Zr).cell 0
            have z1 : wv.cell? ⟨w.heap.size + 1 + 1, 1, none⟩ = some (.int .i64 0) := (unhide Zr).cell 1
            have z2 : wv.cell? ⟨w.heap.size + 1 + 1, 2, none⟩ = some (.slice none 0 0) := (unhide Zr).cell 2
            have zf0 : wv.frozen? ⟨w.heap.size + 1 + 1, 0, none⟩ = false := (unhide Zr).frozen 0
            have zf1 : wv.frozen? ⟨w.heap.size + 1 + 1, 1, none⟩ = false := (unhide Zr).frozen 1
            have zf2 : wv.frozen? ⟨w.heap.size + 1 + 1, 2, none⟩ = false := (unhide Zr).frozen 2
            have p0 := (unhide Kr).lt
            have p1 := (unhide Lr).lt
            have p2 := (unhide Zr).lt
            go_wp2_with fail
            refine bodyPost_ret (v := .tuple #[.agg #[.int .i64 0, .int .i64 0, .slice none 0 0], .bool false]) (by simp [results, Tryz.results12, go_sem, *]) rfl ?_
            rw [unhide HRR]
            exact ⟨none, 0, 0, rfl, OwnI.nil _ _, below_set3 (unhide HBr) (by omega) _ _ _⟩
      · skip
        have HRR : Hid (joinR sa1 ta xs sb tb ys = (0, 0, [], false)) := by unfold Hid joinR; rw [t1]; simp
        go_enter Tryz.func12, Tryz.ntmps12
        have qa0 : ∀ s : Abv (((w.alloc (.cells #[.int .i64 sa1, .int .i64 ta, .slice A n c] 26)).alloc (.cells #[.int .i64 sb, .int .i64 tb, .slice B m d] 26)).alloc (.cells #[.int .i64 0, .int .i64 0, .slice none 0 0] 26)), s.w.cell? ⟨w.heap.size, 0, none⟩ = some (.int .i64 sa1) := Abv.cell (unhide K0).lt ((unhide K0).cell 0)
        have qa1 : ∀ s : Abv (((w.alloc (.cells #[.int .i64 sa1, .int .i64 ta, .slice A n c] 26)).alloc (.cells #[.int .i64 sb, .int .i64 tb, .slice B m d] 26)).alloc (.cells #[.int .i64 0, .int .i64 0, .slice none 0 0] 26)), s.w.cell? ⟨w.heap.size, 1, none⟩ = some (.int .i64 ta) := Abv.cell (unhide K0).lt ((unhide K0).cell 1)
        have qa2 : ∀ s : Abv (((w.alloc (.cells #[.int .i64 sa1, .int .i64 ta, .slice A n c] 26)).alloc (.cells #[.int .i64 sb, .int .i64 tb, .slice B m d] 26)).alloc (.cells #[.int .i64 0, .int .i64 0, .slice none 0 0] 26)), s.w.cell? ⟨w.heap.size, 2, none⟩ = some (.slice A n c) := Abv.cell (unhide K0).lt ((unhide K0).cell 2)
        have qb0 : ∀ s : Abv (((w.alloc (.cells #[.int .i64 sa1, .int .i64 ta, .slice A n c] 26)).alloc (.cells #[.int .i64 sb, .int .i64 tb, .slice B m d] 26)).alloc (.cells #[.int .i64 0, .int .i64 0, .slice none 0 0] 26)), s.w.cell? ⟨w.heap.size + 1, 0, none⟩ = some (.int .i64 sb) := Abv.cell (unhide L0).lt ((unhide L0).cell 0)
        have qb1 : ∀ s : Abv (((w.alloc (.cells #[.int .i64 sa1, .int .i64 ta, .slice A n c] 26)).alloc (.cells #[.int .i64 sb, .int .i64 tb, .slice B m d] 26)).alloc (.cells #[.int .i64 0, .int .i64 0, .slice none 0 0] 26)), s.w.cell? ⟨w.heap.size + 1, 1, none⟩ = some (.int .i64 tb) := Abv.cell (unhide L0).lt ((unhide L0).cell 1)
        have qb2 : ∀ s : Abv (((w.alloc (.cells #[.int .i64 sa1, .int .i64 ta, .slice A n c] 26)).alloc (.cells #[.int .i64 sb, .int .i64 tb, .slice B m d] 26)).alloc (.cells #[.int .i64 0, .int .i64 0, .slice none 0 0] 26)), s.w.cell? ⟨w.heap.size + 1, 2, none⟩ = some (.slice B m d) := Abv.cell (unhide L0).lt ((unhide L0).cell 2)
        have HGAs := hide (fun s : Abv (((w.alloc (.cells #[.int .i64 sa1, .int .i64 ta, .slice A n c] 26)).alloc (.cells #[.int .i64 sb, .int .i64 tb, .slice B m d] 26)).alloc (.cells #[.int .i64 0, .int .i64 0, .slice none 0 0] 26)) => unhide HGA s.w (below_three s.h))
        have HGBs := hide (fun s : Abv (((w.alloc (.cells #[.int .i64 sa1, .int .i64 ta, .slice A n c] 26)).alloc (.cells #[.int .i64 sb, .int .i64 tb, .slice B m d] 26)).alloc (.cells #[.int .i64 0, .int .i64 0, .slice none 0 0] 26)) => unhide HGB s.w (below_three s.h))
        go_wp2_with fail
        refine wp_region_abv (((w.alloc (.cells #[.int .i64 sa1, .int .i64 ta, .slice A n c] 26)).alloc (.cells #[.int .i64 sb, .int .i64 tb, .slice B m d] 26)).alloc (.cells #[.int .i64 0, .int .i64 0, .slice none 0 0] 26)) (by kernel_rfl) (by kernel_rfl) (Below.refl _ _) ?_
        repeat (go_big_quiet_step ((first | (go_at_call 9; first | with_reducible exact Calls.abv (unhide HGAs _) | with_reducible exact Calls.abv (unhide HGBs _)))))
        refine wpQuiet_nil ?_
        intro _ hw'
        obtain ⟨sv, hw''⟩ := hw'
        subst hw''
        clear qa0 qa1 qa2 qb0 qb1 qb2 HGAs HGBs
        have HBr := hide (below_three sv.h)
        have Kr := hide ((unhide K0).below sv.h)
        have Lr := hide ((unhide L0).below sv.h)
        have Zr := hide ((unhide Z0).below sv.h)
        generalize sv.w = wv at *
        clear sv
        have a0 : wv.cell? ⟨w.heap.size, 0, none⟩ = some (.int .i64 sa1) := (unhide Kr).cell 0
        have a1 : wv.cell? ⟨w.heap.size, 1, none⟩ = some (.int .i64 ta) := (unhide Kr).cell 1
        have a2 : wv.cell? ⟨w.heap.size, 2, none⟩ = some (.slice A n c) := (unhide Kr).cell 2
        have b0 : wv.cell? ⟨w.heap.size + 1, 0, none⟩ = some (.int .i64 sb) := (unhide Lr).cell 0
        have b1 : wv.cell? ⟨w.heap.size + 1, 1, none⟩ = some (.int .i64 tb) := (unhide Lr).cell 1
        have b2 : wv.cell? ⟨w.heap.size + 1, 2, none⟩ = some (.slice B m d) := (unhide Lr).cell 2
        have z0 : wv.cell? ⟨w.heap.size + 1 + 1, 0, none⟩ = some (.int .i64 0) := (unhide Zr).cell 0
        have z1 : wv.cell? ⟨w.heap.size + 1 + 1, 1, none⟩ = some (.int .i64 0) := (unhide Zr).cell 1
        have z2 : wv.cell? ⟨w.heap.size + 1 + 1, 2, none⟩ = some (.slice none 0 0) := (unhide Zr).cell 2
        have zf0 : wv.frozen? ⟨w.heap.size + 1 + 1, 0, none⟩ = false := (unhide Zr).frozen 0
        have zf1 : wv.frozen? ⟨w.heap.size + 1 + 1, 1, none⟩ = false := (unhide Zr).frozen 1
        have zf2 : wv.frozen? ⟨w.heap.size + 1 + 1, 2, none⟩ = false := (unhide Zr).frozen 2
        have p0 := (unhide Kr).lt
        have p1 := (unhide Lr).lt
        have p2 := (unhide Zr).lt
        go_wp2_with fail
        refine bodyPost_ret (v := .tuple #[.agg #[.int .i64 0, .int .i64 0, .slice none 0 0], .bool false]) (by simp [results, Tryz.results12, go_sem, *]) rfl ?_
        rw [unhide HRR]
        exact ⟨none, 0, 0, rfl, OwnI.nil _ _, below_set3 (unhide HBr) (by omega) _ _ _⟩

end Go.Proofs.YtdpmpdhhjmbbcaaGreatDoor
