/- Chapter 2, the walks: two traces joined: the program's and the reference's. (By gen_traceJ.py.) -/
import Derived.Test.YtdpmpdhhjmbbcaaGreatDoorProg
import Derived.Test.YtdpmpdhhjmbbcaaGreatDoorTraceG
import Derived.Test.YtdpmpdhhjmbbcaaGreatDoorWhole
import Derived.Test.YtdpmpdhhjmbbcaaGreatDoorConcat
import Derived.Deep.DeepCutAuto
namespace Go.Proofs.YtdpmpdhhjmbbcaaGreatDoor
open Go.RowKit

/-- two traces joined, whether they can be -/
def joinR (sa1 ta : Int) (xs : List Int) (sb tb : Int) (ys : List Int) : Int × Int × List Int × Bool :=
  if (goodB sa1 ta xs && goodB sb tb ys && !(sa1 != sb) && !decide (xs.length = 0) && !(tb != ta + xs.length) && goodB sa1 ta (xs ++ ys)) = true then (sa1, ta, xs ++ ys, true) else (0, 0, [], false)
theorem join_len (sa1 ta : Int) (xs : List Int) (sb tb : Int) (ys : List Int) (h : xs.length ≤ 1048576) (h' : ys.length ≤ 1048576) : (joinR sa1 ta xs sb tb ys).2.2.1.length ≤ 2097152 := by
  unfold joinR
  split
  · simp only [List.length_append]; omega
  · simp
theorem trace_ne_int' : 26 ≠ 3 := by decide
theorem far3 {w : World} {g o : Nat} {t : TypeId} {cs : Array Value} (h : Whl w g t cs) (hne : g ≠ o) (x y z : Value) : Whl (((w.setCell ⟨o, 0, none⟩ x).setCell ⟨o, 1, none⟩ y).setCell ⟨o, 2, none⟩ z) g t cs :=
  ((h.far (p := ⟨o, 0, none⟩) hne x).far (p := ⟨o, 1, none⟩) hne y).far (p := ⟨o, 2, none⟩) hne z
theorem own3 {w : World} {lo o n c : Nat} {A : Option Addr} {xs : List Int} {t : TypeId} {cs : Array Value} (h : OwnI w lo A n c xs) (hg : Whl w o t cs) (hne : t ≠ 3) (x y z : Value) : OwnI (((w.setCell ⟨o, 0, none⟩ x).setCell ⟨o, 1, none⟩ y).setCell ⟨o, 2, none⟩ z) lo A n c xs :=
  OwnI.apart (OwnI.apart (OwnI.apart h hg hne 0 x) (hg.store 0 x) hne 1 y) ((hg.store 0 x).store 1 y) hne 2 z
theorem four_cells {w' : World} {g : Nat} {a b c0 d e f0 : Value} (hK : Whl w' g 26 #[a, b, c0]) (hL : Whl w' (g + 1) 26 #[d, e, f0]) : w'.cell? ⟨g, 0, none⟩ = some a ∧ w'.cell? ⟨g, 1, none⟩ = some b ∧ w'.cell? ⟨g, 2, none⟩ = some c0 ∧ w'.cell? ⟨g + 1, 2, none⟩ = some f0 :=
  ⟨hK.cell 0, hK.cell 1, hK.cell 2, hL.cell 2⟩
theorem size_alloc (w : World) (o : Obj) : (w.alloc o).heap.size = w.heap.size + 1 := by simp
theorem below_three {w w1 : World} {o o' o'' : Obj} (hb : Below (((w.alloc o).alloc o').alloc o'').heap.size (((w.alloc o).alloc o').alloc o'') w1) : Below w.heap.size w w1 :=
  ((((Below.refl _ w).alloc (Nat.le_refl _) _).alloc (by simp) _).alloc (by simp; omega) _).trans (hb.mono (by simp; omega))

set_option maxHeartbeats 4000000 in
set_option maxRecDepth 100000 in
theorem specJoin_any (sa1 ta : Int) (A : Option Addr) (n c : Nat) (xs : List Int) (sb tb : Int) (B : Option Addr) (m d : Nat) (ys : List Int) (w : World) (hr : RI w w.heap.size A n xs) (hn : n ≤ 1048576) (hr2 : RI w w.heap.size B m ys) (hm : m ≤ 1048576) :
    Calls Tryz.prog 18 #[.agg #[.int .i64 sa1, .int .i64 ta, .slice A n c], .agg #[.int .i64 sb, .int .i64 tb, .slice B m d]] w (RetTB w (joinR sa1 ta xs sb tb ys).1 (joinR sa1 ta xs sb tb ys).2.1 (joinR sa1 ta xs sb tb ys).2.2.1 (joinR sa1 ta xs sb tb ys).2.2.2) := by
  have HL := hide hr.len
  have HL2 := hide hr2.len
  have K0 := hide (((Whl.here w 26 #[.int .i64 sa1, .int .i64 ta, .slice A n c]).alloc (.cells #[.int .i64 sb, .int .i64 tb, .slice B m d] 26)).alloc (.cells #[.int .i64 0, .int .i64 0, .slice none 0 0] 26))
  have L0 : Hid (Whl (((w.alloc (.cells #[.int .i64 sa1, .int .i64 ta, .slice A n c] 26)).alloc (.cells #[.int .i64 sb, .int .i64 tb, .slice B m d] 26)).alloc (.cells #[.int .i64 0, .int .i64 0, .slice none 0 0] 26)) (w.heap.size + 1) 26 #[.int .i64 sb, .int .i64 tb, .slice B m d]) := by have := (Whl.here (w.alloc (.cells #[.int .i64 sa1, .int .i64 ta, .slice A n c] 26)) 26 #[.int .i64 sb, .int .i64 tb, .slice B m d]).alloc (.cells #[.int .i64 0, .int .i64 0, .slice none 0 0] 26); rwa [show (w.alloc (.cells #[.int .i64 sa1, .int .i64 ta, .slice A n c] 26)).heap.size = w.heap.size + 1 by simp] at this
  have Z0 : Hid (Whl (((w.alloc (.cells #[.int .i64 sa1, .int .i64 ta, .slice A n c] 26)).alloc (.cells #[.int .i64 sb, .int .i64 tb, .slice B m d] 26)).alloc (.cells #[.int .i64 0, .int .i64 0, .slice none 0 0] 26)) (w.heap.size + 1 + 1) 26 #[.int .i64 0, .int .i64 0, .slice none 0 0]) := by have := Whl.here ((w.alloc (.cells #[.int .i64 sa1, .int .i64 ta, .slice A n c] 26)).alloc (.cells #[.int .i64 sb, .int .i64 tb, .slice B m d] 26)) 26 #[.int .i64 0, .int .i64 0, .slice none 0 0]; rwa [show ((w.alloc (.cells #[.int .i64 sa1, .int .i64 ta, .slice A n c] 26)).alloc (.cells #[.int .i64 sb, .int .i64 tb, .slice B m d] 26)).heap.size = w.heap.size + 1 + 1 by simp] at this
  have HX := hide hr
  have HY := hide hr2
  have HB0 : Hid (Below w.heap.size w (((w.alloc (.cells #[.int .i64 sa1, .int .i64 ta, .slice A n c] 26)).alloc (.cells #[.int .i64 sb, .int .i64 tb, .slice B m d] 26)).alloc (.cells #[.int .i64 0, .int .i64 0, .slice none 0 0] 26))) := (((Below.refl _ w).alloc (Nat.le_refl _) _).alloc (by simp) _).alloc (by simp <;> omega) _
  have HGA := hide (fun (W : World) (hb : Below w.heap.size w W) => l2Good_any sa1 ta A n c xs W ((hr.below hb).more hb.size) hn)
  have HGB := hide (fun (W : World) (hb : Below w.heap.size w W) => l2Good_any sb tb B m d ys W ((hr2.below hb).more hb.size) hm)
  have HGC := hide (fun (A' : Option Addr) (p c' : Nat) (W : World) (h : RI W W.heap.size A' p (xs ++ ys)) (hp : p ≤ 1048576) => l2Good_any sa1 ta A' p c' (xs ++ ys) W h hp)
  clear hr hr2
  rcases h1 : goodB sa1 ta xs with _ | _
  · skip
    rw [h1] at HGA
    have HRR : Hid (joinR sa1 ta xs sb tb ys = (0, 0, [], false)) := by unfold Hid joinR; rw [h1]; rfl
    go_enter Tryz.func18, Tryz.ntmps18
    go_wp2_with fail
    refine (unhide HGA _ (unhide HB0)).mono ?_
    rintro e wq ⟨rfl, hb⟩
    have HBq := hide (below_three hb)
    have Kq := hide ((unhide K0).below hb)
    have Lq := hide ((unhide L0).below hb)
    have Zq := hide ((unhide Z0).below hb)
    clear hb
    have a0 : wq.cell? ⟨w.heap.size, 0, none⟩ = some (.int .i64 sa1) := (unhide Kq).cell 0
    have a1 : wq.cell? ⟨w.heap.size, 1, none⟩ = some (.int .i64 ta) := (unhide Kq).cell 1
    have a2 : wq.cell? ⟨w.heap.size, 2, none⟩ = some (.slice A n c) := (unhide Kq).cell 2
    have b0 : wq.cell? ⟨w.heap.size + 1, 0, none⟩ = some (.int .i64 sb) := (unhide Lq).cell 0
    have b1 : wq.cell? ⟨w.heap.size + 1, 1, none⟩ = some (.int .i64 tb) := (unhide Lq).cell 1
    have b2 : wq.cell? ⟨w.heap.size + 1, 2, none⟩ = some (.slice B m d) := (unhide Lq).cell 2
    have z0 : wq.cell? ⟨w.heap.size + 1 + 1, 0, none⟩ = some (.int .i64 0) := (unhide Zq).cell 0
    have z1 : wq.cell? ⟨w.heap.size + 1 + 1, 1, none⟩ = some (.int .i64 0) := (unhide Zq).cell 1
    have z2 : wq.cell? ⟨w.heap.size + 1 + 1, 2, none⟩ = some (.slice none 0 0) := (unhide Zq).cell 2
    have zf0 : wq.frozen? ⟨w.heap.size + 1 + 1, 0, none⟩ = false := (unhide Zq).frozen 0
    have zf1 : wq.frozen? ⟨w.heap.size + 1 + 1, 1, none⟩ = false := (unhide Zq).frozen 1
    have zf2 : wq.frozen? ⟨w.heap.size + 1 + 1, 2, none⟩ = false := (unhide Zq).frozen 2
    have p0 := (unhide Kq).lt
    have p1 := (unhide Lq).lt
    have p2 := (unhide Zq).lt
    go_wp2_with fail
    refine bodyPost_ret (v := .tuple #[.agg #[.int .i64 0, .int .i64 0, .slice none 0 0], .bool false]) (by simp [results, Tryz.results18, go_sem, *]) rfl ?_
    rw [unhide HRR]
    exact ⟨none, 0, 0, rfl, OwnI.nil _ _, below_set3 (unhide HBq) (by omega) _ _ _⟩
  · obtain ⟨_, ⟨g0, g1⟩, hsx, _⟩ := goodB_parts h1
    have hn24 : n ≤ 24 := by have := smpB_len hsx; have := unhide HL; omega
    clear hsx
    rw [h1] at HGA
    rcases h2 : goodB sb tb ys with _ | _
    · skip
      rw [h2] at HGB
      have HRR : Hid (joinR sa1 ta xs sb tb ys = (0, 0, [], false)) := by unfold Hid joinR; rw [h1, h2]; rfl
      go_enter Tryz.func18, Tryz.ntmps18
      go_wp2_with fail
      refine (unhide HGA _ (unhide HB0)).mono ?_
      rintro e wq ⟨rfl, hb⟩
      have HBq := hide (below_three hb)
      have Kq := hide ((unhide K0).below hb)
      have Lq := hide ((unhide L0).below hb)
      have Zq := hide ((unhide Z0).below hb)
      clear hb
      have a0 : wq.cell? ⟨w.heap.size, 0, none⟩ = some (.int .i64 sa1) := (unhide Kq).cell 0
      have a1 : wq.cell? ⟨w.heap.size, 1, none⟩ = some (.int .i64 ta) := (unhide Kq).cell 1
      have a2 : wq.cell? ⟨w.heap.size, 2, none⟩ = some (.slice A n c) := (unhide Kq).cell 2
      have b0 : wq.cell? ⟨w.heap.size + 1, 0, none⟩ = some (.int .i64 sb) := (unhide Lq).cell 0
      have b1 : wq.cell? ⟨w.heap.size + 1, 1, none⟩ = some (.int .i64 tb) := (unhide Lq).cell 1
      have b2 : wq.cell? ⟨w.heap.size + 1, 2, none⟩ = some (.slice B m d) := (unhide Lq).cell 2
      have z0 : wq.cell? ⟨w.heap.size + 1 + 1, 0, none⟩ = some (.int .i64 0) := (unhide Zq).cell 0
      have z1 : wq.cell? ⟨w.heap.size + 1 + 1, 1, none⟩ = some (.int .i64 0) := (unhide Zq).cell 1
      have z2 : wq.cell? ⟨w.heap.size + 1 + 1, 2, none⟩ = some (.slice none 0 0) := (unhide Zq).cell 2
      have zf0 : wq.frozen? ⟨w.heap.size + 1 + 1, 0, none⟩ = false := (unhide Zq).frozen 0
      have zf1 : wq.frozen? ⟨w.heap.size + 1 + 1, 1, none⟩ = false := (unhide Zq).frozen 1
      have zf2 : wq.frozen? ⟨w.heap.size + 1 + 1, 2, none⟩ = false := (unhide Zq).frozen 2
      have p0 := (unhide Kq).lt
      have p1 := (unhide Lq).lt
      have p2 := (unhide Zq).lt
      go_wp2_with fail
      refine (unhide HGB _ (unhide HBq)).mono ?_
      rintro e wv ⟨rfl, hb⟩
      clear a0 a1 a2 b0 b1 b2 z0 z1 z2 zf0 zf1 zf2 p0 p1 p2
      have HBr := hide (below_next (unhide HBq) hb)
      have Kr := hide ((unhide Kq).below hb)
      have Lr := hide ((unhide Lq).below hb)
      have Zr := hide ((unhide Zq).below hb)
      clear hb HBq Kq Lq Zq
      have a0 : wv.cell? ⟨w.heap.size, 0, none⟩ = some (.int .i64 sa1) := (unhide Kr).cell 0
      have a1 : wv.cell? ⟨w.heap.size, 1, none⟩ = some (.int .i64 ta) := (unhide Kr).cell 1
      have a2 : wv.cell? ⟨w.heap.size, 2, none⟩ = some (.slice A n c) := (unhide Kr).cell 2
      have b0 : wv.cell? ⟨w.heap.size + 1, 0, none⟩ = some (.int .i64 sb) := (unhide Lr).cell 0
      have b1 : wv.cell? ⟨w.heap.size + 1, 1, none⟩ = some (.int .i64 tb) := (unhide Lr).cell 1
      have b2 : wv.cell? ⟨w.heap.size + 1, 2, none⟩ = some (.slice B m d) := (unhide Lr).cell 2
      have z0 : wv.cell? ⟨w.heap.size + 1 + 1, 0, none⟩ = some (.int .i64 0) := (unhide Zr).cell 0
      have z1 : wv.cell? ⟨w.heap.size + 1 + 1, 1, none⟩ = some (.int .i64 0) := (unhide Zr).cell 1
      have z2 : wv.cell? ⟨w.heap.size + 1 + 1, 2, none⟩ = some (.slice none 0 0) := (unhide Zr).cell 2
      have zf0 : wv.frozen? ⟨w.heap.size + 1 + 1, 0, none⟩ = false := (unhide Zr).frozen 0
      have zf1 : wv.frozen? ⟨w.heap.size + 1 + 1, 1, none⟩ = false := (unhide Zr).frozen 1
      have zf2 : wv.frozen? ⟨w.heap.size + 1 + 1, 2, none⟩ = false := (unhide Zr).frozen 2
      have p0 := (unhide Kr).lt
      have p1 := (unhide Lr).lt
      have p2 := (unhide Zr).lt
      go_wp2_with fail
      refine bodyPost_ret (v := .tuple #[.agg #[.int .i64 0, .int .i64 0, .slice none 0 0], .bool false]) (by simp [results, Tryz.results18, go_sem, *]) rfl ?_
      rw [unhide HRR]
      exact ⟨none, 0, 0, rfl, OwnI.nil _ _, below_set3 (unhide HBr) (by omega) _ _ _⟩
    · obtain ⟨_, ⟨j0, j1⟩, hsy, _⟩ := goodB_parts h2
      have hm24 : m ≤ 24 := by have := smpB_len hsy; have := unhide HL2; omega
      clear hsy
      rw [h2] at HGB
      rcases t1 : (sa1 != sb) with _ | _
      · skip
        obtain hz | hpos := Nat.eq_zero_or_pos n
        · have tz : ((n : Int) == 0) = true := by simp; omega
          have HZ9 := hide hz
          clear hz
          have HRR : Hid (joinR sa1 ta xs sb tb ys = (0, 0, [], false)) := by unfold Hid joinR; rw [unhide HL, unhide HZ9]; simp
          go_enter Tryz.func18, Tryz.ntmps18
          go_wp2_with fail
          refine (unhide HGA _ (unhide HB0)).mono ?_
          rintro e wq ⟨rfl, hb⟩
          have HBq := hide (below_three hb)
          have Kq := hide ((unhide K0).below hb)
          have Lq := hide ((unhide L0).below hb)
          have Zq := hide ((unhide Z0).below hb)
          clear hb
          have a0 : wq.cell? ⟨w.heap.size, 0, none⟩ = some (.int .i64 sa1) := (unhide Kq).cell 0
          have a1 : wq.cell? ⟨w.heap.size, 1, none⟩ = some (.int .i64 ta) := (unhide Kq).cell 1
          have a2 : wq.cell? ⟨w.heap.size, 2, none⟩ = some (.slice A n c) := (unhide Kq).cell 2
          have b0 : wq.cell? ⟨w.heap.size + 1, 0, none⟩ = some (.int .i64 sb) := (unhide Lq).cell 0
          have b1 : wq.cell? ⟨w.heap.size + 1, 1, none⟩ = some (.int .i64 tb) := (unhide Lq).cell 1
          have b2 : wq.cell? ⟨w.heap.size + 1, 2, none⟩ = some (.slice B m d) := (unhide Lq).cell 2
          have z0 : wq.cell? ⟨w.heap.size + 1 + 1, 0, none⟩ = some (.int .i64 0) := (unhide Zq).cell 0
          have z1 : wq.cell? ⟨w.heap.size + 1 + 1, 1, none⟩ = some (.int .i64 0) := (unhide Zq).cell 1
          have z2 : wq.cell? ⟨w.heap.size + 1 + 1, 2, none⟩ = some (.slice none 0 0) := (unhide Zq).cell 2
          have zf0 : wq.frozen? ⟨w.heap.size + 1 + 1, 0, none⟩ = false := (unhide Zq).frozen 0
          have zf1 : wq.frozen? ⟨w.heap.size + 1 + 1, 1, none⟩ = false := (unhide Zq).frozen 1
          have zf2 : wq.frozen? ⟨w.heap.size + 1 + 1, 2, none⟩ = false := (unhide Zq).frozen 2
          have p0 := (unhide Kq).lt
          have p1 := (unhide Lq).lt
          have p2 := (unhide Zq).lt
          go_wp2_with fail
          refine (unhide HGB _ (unhide HBq)).mono ?_
          rintro e wv ⟨rfl, hb⟩
          clear a0 a1 a2 b0 b1 b2 z0 z1 z2 zf0 zf1 zf2 p0 p1 p2
          have HBr := hide (below_next (unhide HBq) hb)
          have Kr := hide ((unhide Kq).below hb)
          have Lr := hide ((unhide Lq).below hb)
          have Zr := hide ((unhide Zq).below hb)
          clear hb HBq Kq Lq Zq
          have a0 : wv.cell? ⟨w.heap.size, 0, none⟩ = some (.int .i64 sa1) := (unhide Kr).cell 0
          have a1 : wv.cell? ⟨w.heap.size, 1, none⟩ = some (.int .i64 ta) := (unhide Kr).cell 1
          have a2 : wv.cell? ⟨w.heap.size, 2, none⟩ = some (.slice A n c) := (unhide Kr).cell 2
          have b0 : wv.cell? ⟨w.heap.size + 1, 0, none⟩ = some (.int .i64 sb) := (unhide Lr).cell 0
          have b1 : wv.cell? ⟨w.heap.size + 1, 1, none⟩ = some (.int .i64 tb) := (unhide Lr).cell 1
          have b2 : wv.cell? ⟨w.heap.size + 1, 2, none⟩ = some (.slice B m d) := (unhide Lr).cell 2
          have z0 : wv.cell? ⟨w.heap.size + 1 + 1, 0, none⟩ = some (.int .i64 0) := (unhide Zr).cell 0
          have z1 : wv.cell? ⟨w.heap.size + 1 + 1, 1, none⟩ = some (.int .i64 0) := (unhide Zr).cell 1
          have z2 : wv.cell? ⟨w.heap.size + 1 + 1, 2, none⟩ = some (.slice none 0 0) := (unhide Zr).cell 2
          have zf0 : wv.frozen? ⟨w.heap.size + 1 + 1, 0, none⟩ = false := (unhide Zr).frozen 0
          have zf1 : wv.frozen? ⟨w.heap.size + 1 + 1, 1, none⟩ = false := (unhide Zr).frozen 1
          have zf2 : wv.frozen? ⟨w.heap.size + 1 + 1, 2, none⟩ = false := (unhide Zr).frozen 2
          have p0 := (unhide Kr).lt
          have p1 := (unhide Lr).lt
          have p2 := (unhide Zr).lt
          go_wp2_with fail
          refine bodyPost_ret (v := .tuple #[.agg #[.int .i64 0, .int .i64 0, .slice none 0 0], .bool false]) (by simp [results, Tryz.results18, go_sem, *]) rfl ?_
          rw [unhide HRR]
          exact ⟨none, 0, 0, rfl, OwnI.nil _ _, below_set3 (unhide HBr) (by omega) _ _ _⟩
        · have tz : ((n : Int) == 0) = false := by simp; omega
          rcases t2 : (tb != ta + (n : Int)) with _ | _
          · skip
            have HRR : Hid (∀ r, goodB sa1 ta (xs ++ ys) = r → joinR sa1 ta xs sb tb ys = if r = true then (sa1, ta, xs ++ ys, true) else (0, 0, [], false)) := by
              intro r hr
              unfold joinR
              rw [h1, h2, t1, unhide HL, t2, hr, decide_eq_false (by omega : ¬ n = 0)]; simp
            go_enter Tryz.func18, Tryz.ntmps18
            go_wp2_with fail
            refine (unhide HGA _ (unhide HB0)).mono ?_
            rintro e wq ⟨rfl, hb⟩
            have HBq := hide (below_three hb)
            have Kq := hide ((unhide K0).below hb)
            have Lq := hide ((unhide L0).below hb)
            have Zq := hide ((unhide Z0).below hb)
            clear hb
            have a0 : wq.cell? ⟨w.heap.size, 0, none⟩ = some (.int .i64 sa1) := (unhide Kq).cell 0
            have a1 : wq.cell? ⟨w.heap.size, 1, none⟩ = some (.int .i64 ta) := (unhide Kq).cell 1
            have a2 : wq.cell? ⟨w.heap.size, 2, none⟩ = some (.slice A n c) := (unhide Kq).cell 2
            have b0 : wq.cell? ⟨w.heap.size + 1, 0, none⟩ = some (.int .i64 sb) := (unhide Lq).cell 0
            have b1 : wq.cell? ⟨w.heap.size + 1, 1, none⟩ = some (.int .i64 tb) := (unhide Lq).cell 1
            have b2 : wq.cell? ⟨w.heap.size + 1, 2, none⟩ = some (.slice B m d) := (unhide Lq).cell 2
            have z0 : wq.cell? ⟨w.heap.size + 1 + 1, 0, none⟩ = some (.int .i64 0) := (unhide Zq).cell 0
            have z1 : wq.cell? ⟨w.heap.size + 1 + 1, 1, none⟩ = some (.int .i64 0) := (unhide Zq).cell 1
            have z2 : wq.cell? ⟨w.heap.size + 1 + 1, 2, none⟩ = some (.slice none 0 0) := (unhide Zq).cell 2
            have zf0 : wq.frozen? ⟨w.heap.size + 1 + 1, 0, none⟩ = false := (unhide Zq).frozen 0
            have zf1 : wq.frozen? ⟨w.heap.size + 1 + 1, 1, none⟩ = false := (unhide Zq).frozen 1
            have zf2 : wq.frozen? ⟨w.heap.size + 1 + 1, 2, none⟩ = false := (unhide Zq).frozen 2
            have p0 := (unhide Kq).lt
            have p1 := (unhide Lq).lt
            have p2 := (unhide Zq).lt
            go_wp2_with fail
            refine (unhide HGB _ (unhide HBq)).mono ?_
            rintro e wv ⟨rfl, hb⟩
            clear a0 a1 a2 b0 b1 b2 z0 z1 z2 zf0 zf1 zf2 p0 p1 p2
            have HBr := hide (below_next (unhide HBq) hb)
            have Kr := hide ((unhide Kq).below hb)
            have Lr := hide ((unhide Lq).below hb)
            have Zr := hide ((unhide Zq).below hb)
            clear hb HBq Kq Lq Zq
            have a0 : wv.cell? ⟨w.heap.size, 0, none⟩ = some (.int .i64 sa1) := (unhide Kr).cell 0
            have a1 : wv.cell? ⟨w.heap.size, 1, none⟩ = some (.int .i64 ta) := (unhide Kr).cell 1
            have a2 : wv.cell? ⟨w.heap.size, 2, none⟩ = some (.slice A n c) := (unhide Kr).cell 2
            have b0 : wv.cell? ⟨w.heap.size + 1, 0, none⟩ = some (.int .i64 sb) := (unhide Lr).cell 0
            have b1 : wv.cell? ⟨w.heap.size + 1, 1, none⟩ = some (.int .i64 tb) := (unhide Lr).cell 1
            have b2 : wv.cell? ⟨w.heap.size + 1, 2, none⟩ = some (.slice B m d) := (unhide Lr).cell 2
            have z0 : wv.cell? ⟨w.heap.size + 1 + 1, 0, none⟩ = some (.int .i64 0) := (unhide Zr).cell 0
            have z1 : wv.cell? ⟨w.heap.size + 1 + 1, 1, none⟩ = some (.int .i64 0) := (unhide Zr).cell 1
            have z2 : wv.cell? ⟨w.heap.size + 1 + 1, 2, none⟩ = some (.slice none 0 0) := (unhide Zr).cell 2
            have zf0 : wv.frozen? ⟨w.heap.size + 1 + 1, 0, none⟩ = false := (unhide Zr).frozen 0
            have zf1 : wv.frozen? ⟨w.heap.size + 1 + 1, 1, none⟩ = false := (unhide Zr).frozen 1
            have zf2 : wv.frozen? ⟨w.heap.size + 1 + 1, 2, none⟩ = false := (unhide Zr).frozen 2
            have p0 := (unhide Kr).lt
            have p1 := (unhide Lr).lt
            have p2 := (unhide Zr).lt
            go_wp2_with fail
            go_cut [6] (fun s6 wx => ∃ (go p c' : Nat) (A' : Option Addr), s6 = .pointer (some ⟨go, 0, none⟩) ∧ Hid (Whl wx go 26 #[.int .i64 sa1, .int .i64 ta, .slice A' p c']) ∧ Hid (OwnI wx (w.heap.size + 3) A' p c' (xs ++ ys)) ∧ Hid (Whl wx (w.heap.size + 1 + 1) 26 #[.int .i64 0, .int .i64 0, .slice none 0 0]) ∧ Hid (Below w.heap.size w wx))
            case first =>
              have hn4 : n ≤ 1048576 := by omega
              have hm4 : m ≤ 1048576 := by omega
              have ne1 : w.heap.size ≠ wv.heap.size := by omega
              have ne1' : w.heap.size ≠ wv.heap.size + 1 := by omega
              have ne2 : w.heap.size + 1 ≠ wv.heap.size := by omega
              have ne2' : w.heap.size + 1 ≠ wv.heap.size + 1 := by omega
              have ne3 : w.heap.size + 1 + 1 ≠ wv.heap.size := by omega
              have ne3' : w.heap.size + 1 + 1 ≠ wv.heap.size + 1 := by omega
              have kk := unhide Kr
              have ll := unhide Lr
              go_region_held3 (fun w' => w'.cell? ⟨w.heap.size, 0, none⟩ = some (.int .i64 sa1) ∧ w'.cell? ⟨w.heap.size, 1, none⟩ = some (.int .i64 ta) ∧ w'.cell? ⟨w.heap.size, 2, none⟩ = some (.slice A n c) ∧ w'.cell? ⟨w.heap.size + 1, 2, none⟩ = some (.slice B m d))
                (((with_reducible refine four_cells (d := .int .i64 sb) (e := .int .i64 tb) ?_ ?_); (repeat (first | with_reducible exact unhide K5 | with_reducible exact unhide L5 | with_reducible exact unhide Ky | with_reducible exact unhide Ly | with_reducible exact kk | with_reducible exact ll | with_reducible exact far3 (unhide K5) ne1 _ _ _ | with_reducible exact far3 (unhide L5) ne2 _ _ _ | with_reducible exact far3 (unhide K5) (Nat.ne_of_lt (unhide Ky).lt) _ _ _ | with_reducible exact far3 (unhide L5) (Nat.ne_of_lt (unhide Ly).lt) _ _ _ | with_reducible refine Whl.alloc ?_ _ | with_reducible refine Whl.drew ?_))))
                (first
                  | (go_at_call 42; refine (l1Own_any A n c w.heap.size xs _ ?_ ?_ hn4).mono ?_; (exact (unhide HX).below (by repeat (first | exact unhide HBr | refine below_drewN ?_ _ | refine Below.drew ?_ | refine Below.alloc ?_ (by have := (unhide HBr).size; simp <;> omega) _))); (first | omega | (have := (unhide HBr).size; simp <;> omega)); rintro e wy ⟨A1, n1, c1, rfl, hO, hby⟩; have Ky : Hid (Whl wy w.heap.size 26 #[.int .i64 sa1, .int .i64 ta, .slice A n c]) := hide (Whl.below (by repeat (first | exact kk | with_reducible refine Whl.alloc ?_ _ | with_reducible refine Whl.drew ?_)) hby); have Ly : Hid (Whl wy (w.heap.size + 1) 26 #[.int .i64 sb, .int .i64 tb, .slice B m d]) := hide (Whl.below (by repeat (first | exact ll | with_reducible refine Whl.alloc ?_ _ | with_reducible refine Whl.drew ?_)) hby); have Zy : Hid (Whl wy (w.heap.size + 1 + 1) 26 #[.int .i64 0, .int .i64 0, .slice none 0 0]) := hide (Whl.below (by repeat (first | exact unhide Zr | with_reducible refine Whl.alloc ?_ _ | with_reducible refine Whl.drew ?_)) hby); have HBy : Hid (Below w.heap.size w wy) := hide (below_next (by repeat (first | exact unhide HBr | refine below_drewN ?_ _ | refine Below.drew ?_ | refine Below.alloc ?_ (by have := (unhide HBr).size; simp <;> omega) _)) hby); have HOy : Hid (OwnI wy (w.heap.size + 3) A1 n1 c1 xs) := hide (hO.less (by have := (unhide Zr).lt; first | omega | (simp <;> omega))); have hn1 : n1 ≤ 1048576 := (by have := hO.len; have := unhide HL; omega); (first | (have Uy : Hid (Whl wy wv.heap.size 26 #[.int .i64 0, .int .i64 0, .slice none 0 0]) := hide (Whl.below (Whl.drew (Whl.here wv 26 #[.int .i64 0, .int .i64 0, .slice none 0 0])) hby)) | skip))
                  | (refine step_append_ints2 _ (by rfl) _ _ (by rfl) (w.heap.size + 3) A1 n1 c1 xs (by rfl) ?_ ?_ w.heap.size B m d ys (by rfl) ?_ ?_ ?_; (first | exact unhide HOy | exact (unhide HOy).alloc _); (have := (unhide Zy).lt; first | omega | (simp <;> omega)); (first | exact (unhide HY).below (unhide HBy) | exact (unhide HY).below ((unhide HBy).alloc (unhide HBy).size _)); omega; intro A2 c2 w5 hO2 hg2; have HO5 := hide hO2; (first | (have K5 : Hid (Whl w5 w.heap.size 26 #[.int .i64 sa1, .int .i64 ta, .slice A n c]) := hide (Whl.kept (unhide Ky) hg2 (unhide HOy) trace_ne_int'); have L5 : Hid (Whl w5 (w.heap.size + 1) 26 #[.int .i64 sb, .int .i64 tb, .slice B m d]) := hide (Whl.kept (unhide Ly) hg2 (unhide HOy) trace_ne_int'); have Z5 : Hid (Whl w5 (w.heap.size + 1 + 1) 26 #[.int .i64 0, .int .i64 0, .slice none 0 0]) := hide (Whl.kept (unhide Zy) hg2 (unhide HOy) trace_ne_int'); have HB5 : Hid (Below w.heap.size w w5) := hide (OwnI.grow (unhide HOy) (unhide HBy) (Nat.le_add_right _ _) (unhide HBy).size hg2); (first | (have U5 : Hid (Whl w5 wv.heap.size 26 #[.int .i64 0, .int .i64 0, .slice none 0 0]) := hide (Whl.kept (unhide Uy) hg2 (unhide HOy) trace_ne_int'); have u0 : w5.cell? ⟨wv.heap.size, 0, none⟩ = some (.int .i64 0) := (unhide U5).cell 0; have u1 : w5.cell? ⟨wv.heap.size, 1, none⟩ = some (.int .i64 0) := (unhide U5).cell 1; have u2 : w5.cell? ⟨wv.heap.size, 2, none⟩ = some (.slice none 0 0) := (unhide U5).cell 2; have uf0 : w5.frozen? ⟨wv.heap.size, 0, none⟩ = false := (unhide U5).frozen 0; have uf1 : w5.frozen? ⟨wv.heap.size, 1, none⟩ = false := (unhide U5).frozen 1; have uf2 : w5.frozen? ⟨wv.heap.size, 2, none⟩ = false := (unhide U5).frozen 2; have ul := (unhide U5).lt) | skip)) | (have K5 : Hid (Whl w5 w.heap.size 26 #[.int .i64 sa1, .int .i64 ta, .slice A n c]) := hide (Whl.kept ((unhide Ky).alloc _) hg2 ((unhide HOy).alloc _) trace_ne_int'); have L5 : Hid (Whl w5 (w.heap.size + 1) 26 #[.int .i64 sb, .int .i64 tb, .slice B m d]) := hide (Whl.kept ((unhide Ly).alloc _) hg2 ((unhide HOy).alloc _) trace_ne_int'); have Z5 : Hid (Whl w5 (w.heap.size + 1 + 1) 26 #[.int .i64 0, .int .i64 0, .slice none 0 0]) := hide (Whl.kept ((unhide Zy).alloc _) hg2 ((unhide HOy).alloc _) trace_ne_int'); have HB5 : Hid (Below w.heap.size w w5) := hide (OwnI.grow ((unhide HOy).alloc _) ((unhide HBy).alloc (unhide HBy).size _) (Nat.le_add_right _ _) ((unhide HBy).alloc (unhide HBy).size _).size hg2); have U5 : Hid (Whl w5 wy.heap.size 26 #[.int .i64 0, .int .i64 0, .slice none 0 0]) := hide (Whl.kept (Whl.here wy 26 #[.int .i64 0, .int .i64 0, .slice none 0 0]) hg2 ((unhide HOy).alloc _) trace_ne_int'); have u0 : w5.cell? ⟨wy.heap.size, 0, none⟩ = some (.int .i64 0) := (unhide U5).cell 0; have u1 : w5.cell? ⟨wy.heap.size, 1, none⟩ = some (.int .i64 0) := (unhide U5).cell 1; have u2 : w5.cell? ⟨wy.heap.size, 2, none⟩ = some (.slice none 0 0) := (unhide U5).cell 2; have uf0 : w5.frozen? ⟨wy.heap.size, 0, none⟩ = false := (unhide U5).frozen 0; have uf1 : w5.frozen? ⟨wy.heap.size, 1, none⟩ = false := (unhide U5).frozen 1; have uf2 : w5.frozen? ⟨wy.heap.size, 2, none⟩ = false := (unhide U5).frozen 2; have ul := (unhide U5).lt)); clear hO2))
              all_goals
                go_wp2_with fail
                go_meet
                have szy := (unhide HB5).size
                have szw := (unhide HBy).size
                first | exact ⟨_, _, c2, A2, rfl, hide (Whl.here _ _ _), (unhide HO5).alloc _, (unhide Z5).alloc _, (unhide HB5).alloc szy _⟩ | exact ⟨_, _, c2, A2, rfl, hide ((((unhide U5).store 0 _).store 1 _).store 2 _), own3 (unhide HO5) (unhide U5) trace_ne_int' _ _ _, far3 (unhide Z5) ne3 _ _ _, below_set3 (unhide HB5) (by omega) _ _ _⟩ | exact ⟨_, _, c2, A2, rfl, hide ((((unhide U5).store 0 _).store 1 _).store 2 _), own3 (unhide HO5) (unhide U5) trace_ne_int' _ _ _, far3 (unhide Z5) (Nat.ne_of_lt (unhide Zy).lt) _ _ _, below_set3 (unhide HB5) (by omega) _ _ _⟩
            case rest =>
              obtain ⟨go, p, c', A', rfl, hU, hO, hZ, hB⟩ := hcut
              have hp : p ≤ 1048576 := by have h9 := (unhide hO).len; rw [List.length_append] at h9; have := unhide HL; have := unhide HL2; omega
              have o0 : wc.cell? ⟨go, 0, none⟩ = some (.int .i64 sa1) := (unhide hU).cell 0
              have o1 : wc.cell? ⟨go, 1, none⟩ = some (.int .i64 ta) := (unhide hU).cell 1
              have o2 : wc.cell? ⟨go, 2, none⟩ = some (.slice A' p c') := (unhide hU).cell 2
              have HC := hide (unhide HGC A' p c' _ (unhide hO).ri hp)
              rcases h3 : goodB sa1 ta (xs ++ ys) with _ | _
              · have HRR2 := hide (unhide HRR _ h3)
                rw [h3] at HC
                go_wp2_with fail
                refine (unhide HC).mono ?_
                rintro e w4 ⟨rfl, hb⟩
                have HZ4 := hide ((unhide hZ).below hb)
                have HU4 := hide ((unhide hU).below hb)
                have HB4 := hide (below_next (unhide hB) hb)
                have HO4 := hide (OwnI.below (unhide hO) hb (Nat.le_refl _))
                clear hb o0 o1 o2
                have d0 : w4.cell? ⟨w.heap.size + 1 + 1, 0, none⟩ = some (.int .i64 0) := (unhide HZ4).cell 0
                have d1 : w4.cell? ⟨w.heap.size + 1 + 1, 1, none⟩ = some (.int .i64 0) := (unhide HZ4).cell 1
                have d2 : w4.cell? ⟨w.heap.size + 1 + 1, 2, none⟩ = some (.slice none 0 0) := (unhide HZ4).cell 2
                have df0 : w4.frozen? ⟨w.heap.size + 1 + 1, 0, none⟩ = false := (unhide HZ4).frozen 0
                have df1 : w4.frozen? ⟨w.heap.size + 1 + 1, 1, none⟩ = false := (unhide HZ4).frozen 1
                have df2 : w4.frozen? ⟨w.heap.size + 1 + 1, 2, none⟩ = false := (unhide HZ4).frozen 2
                have o0 : w4.cell? ⟨go, 0, none⟩ = some (.int .i64 sa1) := (unhide HU4).cell 0
                have o1 : w4.cell? ⟨go, 1, none⟩ = some (.int .i64 ta) := (unhide HU4).cell 1
                have o2 : w4.cell? ⟨go, 2, none⟩ = some (.slice A' p c') := (unhide HU4).cell 2
                have of0 : w4.frozen? ⟨go, 0, none⟩ = false := (unhide HU4).frozen 0
                have of1 : w4.frozen? ⟨go, 1, none⟩ = false := (unhide HU4).frozen 1
                have of2 : w4.frozen? ⟨go, 2, none⟩ = false := (unhide HU4).frozen 2
                have su := (unhide HU4).lt
                have sz := (unhide HZ4).lt
                go_wp2_with fail
                refine bodyPost_ret (v := .tuple #[.agg #[.int .i64 0, .int .i64 0, .slice none 0 0], .bool false]) (by simp [results, Tryz.results18, go_sem, *]) rfl ?_
                rw [unhide HRR2]
                exact ⟨none, 0, 0, rfl, OwnI.nil _ _, below_set3 (unhide HB4) (by omega) _ _ _⟩
              · have HRR2 := hide (unhide HRR _ h3)
                rw [h3] at HC
                go_wp2_with fail
                refine (unhide HC).mono ?_
                rintro e w4 ⟨rfl, hb⟩
                have HZ4 := hide ((unhide hZ).below hb)
                have HU4 := hide ((unhide hU).below hb)
                have HB4 := hide (below_next (unhide hB) hb)
                have HO4 := hide (OwnI.below (unhide hO) hb (Nat.le_refl _))
                clear hb o0 o1 o2
                have d0 : w4.cell? ⟨w.heap.size + 1 + 1, 0, none⟩ = some (.int .i64 0) := (unhide HZ4).cell 0
                have d1 : w4.cell? ⟨w.heap.size + 1 + 1, 1, none⟩ = some (.int .i64 0) := (unhide HZ4).cell 1
                have d2 : w4.cell? ⟨w.heap.size + 1 + 1, 2, none⟩ = some (.slice none 0 0) := (unhide HZ4).cell 2
                have df0 : w4.frozen? ⟨w.heap.size + 1 + 1, 0, none⟩ = false := (unhide HZ4).frozen 0
                have df1 : w4.frozen? ⟨w.heap.size + 1 + 1, 1, none⟩ = false := (unhide HZ4).frozen 1
                have df2 : w4.frozen? ⟨w.heap.size + 1 + 1, 2, none⟩ = false := (unhide HZ4).frozen 2
                have o0 : w4.cell? ⟨go, 0, none⟩ = some (.int .i64 sa1) := (unhide HU4).cell 0
                have o1 : w4.cell? ⟨go, 1, none⟩ = some (.int .i64 ta) := (unhide HU4).cell 1
                have o2 : w4.cell? ⟨go, 2, none⟩ = some (.slice A' p c') := (unhide HU4).cell 2
                have of0 : w4.frozen? ⟨go, 0, none⟩ = false := (unhide HU4).frozen 0
                have of1 : w4.frozen? ⟨go, 1, none⟩ = false := (unhide HU4).frozen 1
                have of2 : w4.frozen? ⟨go, 2, none⟩ = false := (unhide HU4).frozen 2
                have su := (unhide HU4).lt
                have sz := (unhide HZ4).lt
                go_wp2_with fail
                refine bodyPost_ret (v := .tuple #[.agg #[.int .i64 sa1, .int .i64 ta, .slice A' p c'], .bool true]) (by simp [results, Tryz.results18, go_sem, d0, d1, d2, df0, df1, df2, o0, o1, o2, su, sz]) rfl ?_
                rw [unhide HRR2]
                exact ⟨A', p, c', rfl, ((((unhide HO4).setB (show w.heap.size + 1 + 1 < w.heap.size + 3 by omega) _).setB (show w.heap.size + 1 + 1 < w.heap.size + 3 by omega) _).setB (show w.heap.size + 1 + 1 < w.heap.size + 3 by omega) _).less (by omega), below_set3 (unhide HB4) (by omega) _ _ _⟩
          · skip
            have HRR : Hid (joinR sa1 ta xs sb tb ys = (0, 0, [], false)) := by unfold Hid joinR; rw [unhide HL, t2]; simp
            go_enter Tryz.func18, Tryz.ntmps18
            go_wp2_with fail
            refine (unhide HGA _ (unhide HB0)).mono ?_
            rintro e wq ⟨rfl, hb⟩
            have HBq := hide (below_three hb)
            have Kq := hide ((unhide K0).below hb)
            have Lq := hide ((unhide L0).below hb)
            have Zq := hide ((unhide Z0).below hb)
            clear hb
            have a0 : wq.cell? ⟨w.heap.size, 0, none⟩ = some (.int .i64 sa1) := (unhide Kq).cell 0
            have a1 : wq.cell? ⟨w.heap.size, 1, none⟩ = some (.int .i64 ta) := (unhide Kq).cell 1
            have a2 : wq.cell? ⟨w.heap.size, 2, none⟩ = some (.slice A n c) := (unhide Kq).cell 2
            have b0 : wq.cell? ⟨w.heap.size + 1, 0, none⟩ = some (.int .i64 sb) := (unhide Lq).cell 0
            have b1 : wq.cell? ⟨w.heap.size + 1, 1, none⟩ = some (.int .i64 tb) := (unhide Lq).cell 1
            have b2 : wq.cell? ⟨w.heap.size + 1, 2, none⟩ = some (.slice B m d) := (unhide Lq).cell 2
            have z0 : wq.cell? ⟨w.heap.size + 1 + 1, 0, none⟩ = some (.int .i64 0) := (unhide Zq).cell 0
            have z1 : wq.cell? ⟨w.heap.size + 1 + 1, 1, none⟩ = some (.int .i64 0) := (unhide Zq).cell 1
            have z2 : wq.cell? ⟨w.heap.size + 1 + 1, 2, none⟩ = some (.slice none 0 0) := (unhide Zq).cell 2
            have zf0 : wq.frozen? ⟨w.heap.size + 1 + 1, 0, none⟩ = false := (unhide Zq).frozen 0
            have zf1 : wq.frozen? ⟨w.heap.size + 1 + 1, 1, none⟩ = false := (unhide Zq).frozen 1
            have zf2 : wq.frozen? ⟨w.heap.size + 1 + 1, 2, none⟩ = false := (unhide Zq).frozen 2
            have p0 := (unhide Kq).lt
            have p1 := (unhide Lq).lt
            have p2 := (unhide Zq).lt
            go_wp2_with fail
            refine (unhide HGB _ (unhide HBq)).mono ?_
            rintro e wv ⟨rfl, hb⟩
            clear a0 a1 a2 b0 b1 b2 z0 z1 z2 zf0 zf1 zf2 p0 p1 p2
            have HBr := hide (below_next (unhide HBq) hb)
            have Kr := hide ((unhide Kq).below hb)
            have Lr := hide ((unhide Lq).below hb)
            have Zr := hide ((unhide Zq).below hb)
            clear hb HBq Kq Lq Zq
            have a0 : wv.cell? ⟨w.heap.size, 0, none⟩ = some (.int .i64 sa1) := (unhide Kr).cell 0
            have a1 : wv.cell? ⟨w.heap.size, 1, none⟩ = some (.int .i64 ta) := (unhide Kr).cell 1
            have a2 : wv.cell? ⟨w.heap.size, 2, none⟩ = some (.slice A n c) := (unhide Kr).cell 2
            have b0 : wv.cell? ⟨w.heap.size + 1, 0, none⟩ = some (.int .i64 sb) := (unhide Lr).cell 0
            have b1 : wv.cell? ⟨w.heap.size + 1, 1, none⟩ = some (.int .i64 tb) := (unhide Lr).cell 1
            have b2 : wv.cell? ⟨w.heap.size + 1, 2, none⟩ = some (.slice B m d) := (unhide Lr).cell 2
            have z0 : wv.cell? ⟨w.heap.size + 1 + 1, 0, none⟩ = some (.int .i64 0) := (unhide Zr).cell 0
            have z1 : wv.cell? ⟨w.heap.size + 1 + 1, 1, none⟩ = some (.int .i64 0) := (unhide Zr).cell 1
            have z2 : wv.cell? ⟨w.heap.size + 1 + 1, 2, none⟩ = some (.slice none 0 0) := (unhide Zr).cell 2
            have zf0 : wv.frozen? ⟨w.heap.size + 1 + 1, 0, none⟩ = false := (unhide Zr).frozen 0
            have zf1 : wv.frozen? ⟨w.heap.size + 1 + 1, 1, none⟩ = false := (unhide Zr).frozen 1
            have zf2 : wv.frozen? ⟨w.heap.size + 1 + 1, 2, none⟩ = false := (unhide Zr).frozen 2
            have p0 := (unhide Kr).lt
            have p1 := (unhide Lr).lt
            have p2 := (unhide Zr).lt
            go_wp2_with fail
            refine bodyPost_ret (v := .tuple #[.agg #[.int .i64 0, .int .i64 0, .slice none 0 0], .bool false]) (by simp [results, Tryz.results18, go_sem, *]) rfl ?_
            rw [unhide HRR]
            exact ⟨none, 0, 0, rfl, OwnI.nil _ _, below_set3 (unhide HBr) (by omega) _ _ _⟩
      · skip
        have HRR : Hid (joinR sa1 ta xs sb tb ys = (0, 0, [], false)) := by unfold Hid joinR; rw [t1]; simp
        go_enter Tryz.func18, Tryz.ntmps18
        go_wp2_with fail
        refine (unhide HGA _ (unhide HB0)).mono ?_
        rintro e wq ⟨rfl, hb⟩
        have HBq := hide (below_three hb)
        have Kq := hide ((unhide K0).below hb)
        have Lq := hide ((unhide L0).below hb)
        have Zq := hide ((unhide Z0).below hb)
        clear hb
        have a0 : wq.cell? ⟨w.heap.size, 0, none⟩ = some (.int .i64 sa1) := (unhide Kq).cell 0
        have a1 : wq.cell? ⟨w.heap.size, 1, none⟩ = some (.int .i64 ta) := (unhide Kq).cell 1
        have a2 : wq.cell? ⟨w.heap.size, 2, none⟩ = some (.slice A n c) := (unhide Kq).cell 2
        have b0 : wq.cell? ⟨w.heap.size + 1, 0, none⟩ = some (.int .i64 sb) := (unhide Lq).cell 0
        have b1 : wq.cell? ⟨w.heap.size + 1, 1, none⟩ = some (.int .i64 tb) := (unhide Lq).cell 1
        have b2 : wq.cell? ⟨w.heap.size + 1, 2, none⟩ = some (.slice B m d) := (unhide Lq).cell 2
        have z0 : wq.cell? ⟨w.heap.size + 1 + 1, 0, none⟩ = some (.int .i64 0) := (unhide Zq).cell 0
        have z1 : wq.cell? ⟨w.heap.size + 1 + 1, 1, none⟩ = some (.int .i64 0) := (unhide Zq).cell 1
        have z2 : wq.cell? ⟨w.heap.size + 1 + 1, 2, none⟩ = some (.slice none 0 0) := (unhide Zq).cell 2
        have zf0 : wq.frozen? ⟨w.heap.size + 1 + 1, 0, none⟩ = false := (unhide Zq).frozen 0
        have zf1 : wq.frozen? ⟨w.heap.size + 1 + 1, 1, none⟩ = false := (unhide Zq).frozen 1
        have zf2 : wq.frozen? ⟨w.heap.size + 1 + 1, 2, none⟩ = false := (unhide Zq).frozen 2
        have p0 := (unhide Kq).lt
        have p1 := (unhide Lq).lt
        have p2 := (unhide Zq).lt
        go_wp2_with fail
        refine (unhide HGB _ (unhide HBq)).mono ?_
        rintro e wv ⟨rfl, hb⟩
        clear a0 a1 a2 b0 b1 b2 z0 z1 z2 zf0 zf1 zf2 p0 p1 p2
        have HBr := hide (below_next (unhide HBq) hb)
        have Kr := hide ((unhide Kq).below hb)
        have Lr := hide ((unhide Lq).below hb)
        have Zr := hide ((unhide Zq).below hb)
        clear hb HBq Kq Lq Zq
        have a0 : wv.cell? ⟨w.heap.size, 0, none⟩ = some (.int .i64 sa1) := (unhide Kr).cell 0
        have a1 : wv.cell? ⟨w.heap.size, 1, none⟩ = some (.int .i64 ta) := (unhide Kr).cell 1
        have a2 : wv.cell? ⟨w.heap.size, 2, none⟩ = some (.slice A n c) := (unhide Kr).cell 2
        have b0 : wv.cell? ⟨w.heap.size + 1, 0, none⟩ = some (.int .i64 sb) := (unhide Lr).cell 0
        have b1 : wv.cell? ⟨w.heap.size + 1, 1, none⟩ = some (.int .i64 tb) := (unhide Lr).cell 1
        have b2 : wv.cell? ⟨w.heap.size + 1, 2, none⟩ = some (.slice B m d) := (unhide Lr).cell 2
        have z0 : wv.cell? ⟨w.heap.size + 1 + 1, 0, none⟩ = some (.int .i64 0) := (unhide Zr).cell 0
        have z1 : wv.cell? ⟨w.heap.size + 1 + 1, 1, none⟩ = some (.int .i64 0) := (unhide Zr).cell 1
        have z2 : wv.cell? ⟨w.heap.size + 1 + 1, 2, none⟩ = some (.slice none 0 0) := (unhide Zr).cell 2
        have zf0 : wv.frozen? ⟨w.heap.size + 1 + 1, 0, none⟩ = false := (unhide Zr).frozen 0
        have zf1 : wv.frozen? ⟨w.heap.size + 1 + 1, 1, none⟩ = false := (unhide Zr).frozen 1
        have zf2 : wv.frozen? ⟨w.heap.size + 1 + 1, 2, none⟩ = false := (unhide Zr).frozen 2
        have p0 := (unhide Kr).lt
        have p1 := (unhide Lr).lt
        have p2 := (unhide Zr).lt
        go_wp2_with fail
        refine bodyPost_ret (v := .tuple #[.agg #[.int .i64 0, .int .i64 0, .slice none 0 0], .bool false]) (by simp [results, Tryz.results18, go_sem, *]) rfl ?_
        rw [unhide HRR]
        exact ⟨none, 0, 0, rfl, OwnI.nil _ _, below_set3 (unhide HBr) (by omega) _ _ _⟩

end Go.Proofs.YtdpmpdhhjmbbcaaGreatDoor
