/- Chapter 2, the walks: two traces that the reference draws. -/
import Derived.Test.YtdpmpdhhjmbbcaaGreatDoorProg
import Derived.Test.YtdpmpdhhjmbbcaaGreatDoorDrawTr
import Derived.Deep.DeepCutAuto
import Derived.Deep.RegionHeld3
import Derived.Deep.RegionLaw
namespace Go.Proofs.YtdpmpdhhjmbbcaaGreatDoor
open Go.RowKit

/-- two traces are drawn -/
def RetDJ (w : World) (e : Ending) (w' : World) : Prop :=
  ∃ (sa ta : Int) (A1 : Option Addr) (n1 c1 : Nat) (ys : List Int) (sb tb : Int) (B1 : Option Addr) (m1 d1 : Nat) (zs : List Int), e = .returned (.tuple #[.agg #[.int .i64 sa, .int .i64 ta, .slice A1 n1 c1], .agg #[.int .i64 sb, .int .i64 tb, .slice B1 m1 d1]]) ∧ OwnI w' w.heap.size A1 n1 c1 ys ∧ OwnI w' w.heap.size B1 m1 d1 zs ∧ n1 ≤ 26 ∧ m1 ≤ 26 ∧ Below w.heap.size w w'
theorem trace_int_ne : 26 ≠ 3 := by decide
/-- the two result boxes at z and z + 1, the cursor at z + 1 + 1, the first trace in block ga -/
structure TwoD (w0 w : World) (z : Nat) (A : Option Addr) (n c : Nat) (xs : List Int) (b ga : Nat) (ca : Array Value) (A1 : Option Addr) (n1 c1 : Nat) (ys : List Int) : Prop where
  cur : Cur w (z + 1 + 1) A n c xs b
  gr : w0.grownBy w (some (z + 1 + 1))
  za : Whl w z 26 #[.int .i64 0, .int .i64 0, .slice none 0 0]
  zb : Whl w (z + 1) 26 #[.int .i64 0, .int .i64 0, .slice none 0 0]
  ka : Whl w ga 26 ca
  oa : OwnI w (z + 3) A1 n1 c1 ys
  la : z + 3 ≤ ga
  l0 : w0.heap.size = z + 3
section
variable {w0 w w' : World} {z n c b b' ga gb n1 c1 : Nat} {A A1 : Option Addr} {xs ys : List Int} {ca cs : Array Value}
theorem TwoD.step (h : TwoD w0 w z A n c xs b ga ca A1 n1 c1 ys) (hg : w.grownBy w' (some (z + 1 + 1))) (hc : Cur w' (z + 1 + 1) A n c xs b') : TwoD w0 w' z A n c xs b' ga ca A1 n1 c1 ys :=
  ⟨hc, grownBy_trans h.gr hg, h.za.gr hg (by omega), h.zb.gr hg (by omega), h.ka.gr hg (by have := h.la; omega), h.oa.gr hg (by omega), h.la, h.l0⟩
theorem TwoD.alloc (h : TwoD w0 w z A n c xs b ga ca A1 n1 c1 ys) (o : Obj) : TwoD w0 (w.alloc o) z A n c xs b ga ca A1 n1 c1 ys :=
  ⟨h.cur.alloc o, grown_alloc h.gr o, h.za.alloc o, h.zb.alloc o, h.ka.alloc o, h.oa.alloc o, h.la, h.l0⟩
theorem TwoD.drew (h : TwoD w0 w z A n c xs b ga ca A1 n1 c1 ys) : TwoD w0 w.drew z A n c xs b ga ca A1 n1 c1 ys :=
  ⟨h.cur.drew, grown_dr h.gr, h.za.drew, h.zb.drew, h.ka.drew, h.oa.dr, h.la, h.l0⟩
theorem TwoD.set (h : TwoD w0 w z A n c xs b ga ca A1 n1 c1 ys) (hb : Whl w gb 26 cs) (hl : z + 3 ≤ gb) (hne : ga ≠ gb) (i : Nat) (u : Value) : TwoD w0 (w.setCell ⟨gb, i, none⟩ u) z A n c xs b ga ca A1 n1 c1 ys :=
  ⟨h.cur.set (p := ⟨gb, i, none⟩) (by show z + 1 + 1 < gb; omega) u, grown_set' h.gr (p := ⟨gb, i, none⟩) (by rw [h.l0]; exact hl) u, h.za.far (p := ⟨gb, i, none⟩) (by show z ≠ gb; omega) u, h.zb.far (p := ⟨gb, i, none⟩) (by show z + 1 ≠ gb; omega) u, h.ka.far (p := ⟨gb, i, none⟩) hne u, OwnI.apart h.oa hb trace_int_ne i u, h.la, h.l0⟩
end

/-- both result boxes are written -/
theorem six_sets {w : World} {z : Nat} (za : Whl w z 26 #[.int .i64 0, .int .i64 0, .slice none 0 0]) (zb : Whl w (z + 1) 26 #[.int .i64 0, .int .i64 0, .slice none 0 0]) (x0 x1 x2 y0 y1 y2 : Value) :
    Whl ((((((w.setCell ⟨z, 0, none⟩ x0).setCell ⟨z, 1, none⟩ x1).setCell ⟨z, 2, none⟩ x2).setCell ⟨z + 1, 0, none⟩ y0).setCell ⟨z + 1, 1, none⟩ y1).setCell ⟨z + 1, 2, none⟩ y2).drew z 26 #[x0, x1, x2] ∧ Whl ((((((w.setCell ⟨z, 0, none⟩ x0).setCell ⟨z, 1, none⟩ x1).setCell ⟨z, 2, none⟩ x2).setCell ⟨z + 1, 0, none⟩ y0).setCell ⟨z + 1, 1, none⟩ y1).setCell ⟨z + 1, 2, none⟩ y2).drew (z + 1) 26 #[y0, y1, y2] := by
  have h1 : z ≠ z + 1 := by omega
  have h2 : z + 1 ≠ z := by omega
  exact ⟨(((((za.store3 x0 x1 x2).far (p := ⟨z + 1, 0, none⟩) h1 y0).far (p := ⟨z + 1, 1, none⟩) h1 y1).far (p := ⟨z + 1, 2, none⟩) h1 y2)).drew, ((((zb.far (p := ⟨z, 0, none⟩) h2 x0).far (p := ⟨z, 1, none⟩) h2 x1).far (p := ⟨z, 2, none⟩) h2 x2).store3 y0 y1 y2).drew⟩
theorem six_own {w : World} {z k d : Nat} {B : Option Addr} {ys : List Int} (h : OwnI w (z + 3) B k d ys) (x0 x1 x2 y0 y1 y2 : Value) :
    OwnI ((((((w.setCell ⟨z, 0, none⟩ x0).setCell ⟨z, 1, none⟩ x1).setCell ⟨z, 2, none⟩ x2).setCell ⟨z + 1, 0, none⟩ y0).setCell ⟨z + 1, 1, none⟩ y1).setCell ⟨z + 1, 2, none⟩ y2).drew (z + 3) B k d ys := by
  have h1 : z < z + 3 := by omega
  have h2 : z + 1 < z + 3 := by omega
  exact ((((((h.setB' (a := ⟨z, 0, none⟩) h1 x0).setB' (a := ⟨z, 1, none⟩) h1 x1).setB' (a := ⟨z, 2, none⟩) h1 x2).setB' (a := ⟨z + 1, 0, none⟩) h2 y0).setB' (a := ⟨z + 1, 1, none⟩) h2 y1).setB' (a := ⟨z + 1, 2, none⟩) h2 y2).dr
theorem six_below {w w0 wx : World} {z : Nat} (h : Below z w w0) (hz : z ≤ w0.heap.size) (hg : w0.grownBy wx (some (z + 1 + 1))) (x0 x1 x2 y0 y1 y2 : Value) :
    Below z w ((((((wx.setCell ⟨z, 0, none⟩ x0).setCell ⟨z, 1, none⟩ x1).setCell ⟨z, 2, none⟩ x2).setCell ⟨z + 1, 0, none⟩ y0).setCell ⟨z + 1, 1, none⟩ y1).setCell ⟨z + 1, 2, none⟩ y2).drew := by
  have hb : Below z w wx := h.grown hg hz fun r e => by injection e with e; omega
  exact ((((((hb.setCell (p := ⟨z, 0, none⟩) (Nat.le_refl _) x0).setCell (p := ⟨z, 1, none⟩) (Nat.le_refl _) x1).setCell (p := ⟨z, 2, none⟩) (Nat.le_refl _) x2).setCell (p := ⟨z + 1, 0, none⟩) (Nat.le_succ _) y0).setCell (p := ⟨z + 1, 1, none⟩) (Nat.le_succ _) y1).setCell (p := ⟨z + 1, 2, none⟩) (Nat.le_succ _) y2).drew

set_option maxHeartbeats 8000000 in
set_option maxRecDepth 100000 in
theorem drawJoinTraces_any (A : Option Addr) (n c : Nat) (xs : List Int) (w : World) (hr : RB w w.heap.size A n xs) (hn : n ≤ 65536) :
    Calls Tryz.prog 17 #[.slice A n c] w (RetDJ w) := by
  have hz1 : (w.alloc (.cells #[.int .i64 0, .int .i64 0, .slice none 0 0] 26)).heap.size = w.heap.size + 1 := by simp
  have hz2 : ((w.alloc (.cells #[.int .i64 0, .int .i64 0, .slice none 0 0] 26)).alloc (.cells #[.int .i64 0, .int .i64 0, .slice none 0 0] 26)).heap.size = w.heap.size + 1 + 1 := by simp
  have HY := hide (((Below.refl w.heap.size w).alloc (Nat.le_refl _) (.cells #[.int .i64 0, .int .i64 0, .slice none 0 0] 26)).alloc (by simp) (.cells #[.int .i64 0, .int .i64 0, .slice none 0 0] 26))
  have HC0 := hide (Cur.new c (RB.later hr (unhide HY)))
  rw [hz2] at HC0
  have HZ1 := hide (((Whl.here w 26 #[.int .i64 0, .int .i64 0, .slice none 0 0]).alloc (.cells #[.int .i64 0, .int .i64 0, .slice none 0 0] 26)).alloc (.cells #[.slice A n c, .int .i64 0, .int .u64 0] 58))
  have HZ2 := hide ((Whl.here' (w.alloc (.cells #[.int .i64 0, .int .i64 0, .slice none 0 0] 26)) 26 #[.int .i64 0, .int .i64 0, .slice none 0 0] hz1.symm).alloc (.cells #[.slice A n c, .int .i64 0, .int .u64 0] 58))
  have HBA := hide ((unhide HY).alloc (unhide HY).size (.cells #[.slice A n c, .int .i64 0, .int .u64 0] 58))
  have hl0 : (((w.alloc (.cells #[.int .i64 0, .int .i64 0, .slice none 0 0] 26)).alloc (.cells #[.int .i64 0, .int .i64 0, .slice none 0 0] 26)).alloc (.cells #[.slice A n c, .int .i64 0, .int .u64 0] 58)).heap.size = w.heap.size + 3 := by simp
  clear hr hz1 hz2 HY
  have hn2 : n ≤ 1048576 := by omega
  go_enter Tryz.func17, Tryz.ntmps17
  go_wp2_with fail
  generalize ((w.alloc (.cells #[.int .i64 0, .int .i64 0, .slice none 0 0] 26)).alloc (.cells #[.int .i64 0, .int .i64 0, .slice none 0 0] 26)).alloc (.cells #[.slice A n c, .int .i64 0, .int .u64 0] 58) = w0 at *
  generalize hzz : w.heap.size = z at *
  have HZZ := hide hzz
  clear hzz
  refine (trace_any (z + 1 + 1) n c 0 A xs w0 (unhide HC0) hn2 (by omega)).mono ?_
  rintro e w1 ⟨st, sa, A', n', c', ys, rfl, hO, hn', _, hC, hgr⟩
  have hL0 := hide hl0
  have HT2 : Hid (TwoD w0 (w1.alloc (.cells #[.int .i64 st, .int .i64 sa, .slice A' n' c'] 26)) z A n c xs (0 + 220) w1.heap.size #[.int .i64 st, .int .i64 sa, .slice A' n' c'] A' n' c' ys) :=
    ⟨hC.alloc _, grown_alloc hgr _, ((unhide HZ1).gr hgr (by omega)).alloc _, ((unhide HZ2).gr hgr (by omega)).alloc _, Whl.here w1 _ _, (OwnI.less hO (by omega)).alloc _, by have := hgr.size; omega, hl0⟩
  clear hC hgr hO HC0 HZ1 HZ2 hl0
  go_wp2_with fail
  generalize hga : w1.heap.size = ga at *
  generalize w1.alloc (.cells #[.int .i64 st, .int .i64 sa, .slice A' n' c'] 26) = w2 at *
  clear hga
  obtain ⟨mm, s1⟩ : ∃ mm : Int, IntKind.i64.wrap (sa + (n' : Int)) = mm := ⟨_, rfl⟩
  have HK2 := hide (unhide HT2).ka
  have k0 : w2.cell? ⟨ga, 0, none⟩ = some (.int .i64 st) := (unhide HK2).cell 0
  have k1 : w2.cell? ⟨ga, 1, none⟩ = some (.int .i64 sa) := (unhide HK2).cell 1
  have k2 : w2.cell? ⟨ga, 2, none⟩ = some (.slice A' n' c') := (unhide HK2).cell 2
  have HSM := hide (samples_any (z + 1 + 1) n c (0 + 220) A xs w2.drew (unhide HT2).cur.drew hn2 (by omega))
  have HSN := hide (samples_any (z + 1 + 1) n c (0 + 220) A xs (w2.alloc (.cells #[.int .i64 0, .int .i64 0, .slice none 0 0] 26)).drew ((unhide HT2).alloc _).cur.drew hn2 (by omega))
  have HTN := hide ((unhide HT2).alloc (.cells #[.int .i64 0, .int .i64 0, .slice none 0 0] 26)).drew
  have HKN := hide (Whl.here w2 26 #[.int .i64 0, .int .i64 0, .slice none 0 0]).drew
  have hzl : z + 3 ≤ w2.heap.size := by have := (unhide HT2).gr.size; have := (unhide HT2).l0; omega
  have hz3 : z + 1 + 1 ≠ w2.heap.size := by omega
  have hga2 : ga < w2.heap.size := (unhide HK2).lt
  have hgne : ga ≠ w2.heap.size := Nat.ne_of_lt hga2
  have hln : (w2.alloc (.cells #[.int .i64 0, .int .i64 0, .slice none 0 0] 26)).drew.heap.size = w2.heap.size + 1 := by simp
  have hlo9 : w2.heap.size < (w2.alloc (.cells #[.int .i64 0, .int .i64 0, .slice none 0 0] 26)).drew.heap.size := by rw [hln]; omega
  have hlo8 : z + 3 ≤ (w2.alloc (.cells #[.int .i64 0, .int .i64 0, .slice none 0 0] 26)).drew.heap.size := by rw [hln]; omega
  go_cut [6] (fun v wx => ∃ (gb m d : Nat) (B : Option Addr) (zs : List Int), v = .pointer (some ⟨gb, 0, none⟩) ∧ Hid (z + 3 ≤ gb) ∧ Hid (ga < gb) ∧ m ≤ 26 ∧ Hid (TwoD w0 wx z A n c xs (0 + 220 + 200) ga #[.int .i64 st, .int .i64 sa, .slice A' n' c'] A' n' c' ys) ∧ Hid (Whl wx gb 26 #[.int .i64 st, .int .i64 mm, .slice B m d]) ∧ Hid (OwnI wx (z + 3) B m d zs))
  case first =>
    go_region_held3 (fun w' => w'.cell? ⟨ga, 0, none⟩ = some (.int .i64 st) ∧ w'.cell? ⟨ga, 1, none⟩ = some (.int .i64 sa) ∧ w'.cell? ⟨ga, 2, none⟩ = some (.slice A' n' c'))
      (((with_reducible refine three_cells (T := 26) ?_); (repeat (first | with_reducible exact unhide HK3 | with_reducible exact unhide HK2 | with_reducible refine Whl.drew ?_ | with_reducible refine Whl.alloc ?_ _ | refine Whl.far ?_ hgne _))))
      (first
        | (go_at_call 43; (with_reducible refine Calls.mono (unhide HSM) ?_); rintro e wv ⟨B, m, d, zs, rfl, hOb, hm, _, hC, hg⟩; have HT3 := hide ((unhide HT2).drew.step hg hC); have HO3 := hide hOb; have HK3 := hide (unhide HT3).ka; have hgv : w2.heap.size ≤ wv.heap.size := hg.size; clear hC hg hOb)
        | (go_at_call 43; (with_reducible refine Calls.mono (unhide HSN) ?_); rintro e wv ⟨B, m, d, zs, rfl, hOb, hm, _, hC, hg⟩; have HT3 := hide ((unhide HTN).step hg hC); have HO3 := hide hOb; have HK3 := hide (unhide HT3).ka; have HN3 := hide ((unhide HKN).gr hg hz3); have m0 : wv.cell? ⟨w2.heap.size, 0, none⟩ = some (.int .i64 0) := (unhide HN3).cell 0; have m1 : wv.cell? ⟨w2.heap.size, 1, none⟩ = some (.int .i64 0) := (unhide HN3).cell 1; have m2 : wv.cell? ⟨w2.heap.size, 2, none⟩ = some (.slice none 0 0) := (unhide HN3).cell 2; have f0 : wv.frozen? ⟨w2.heap.size, 0, none⟩ = false := (unhide HN3).frozen 0; have f1 : wv.frozen? ⟨w2.heap.size, 1, none⟩ = false := (unhide HN3).frozen 1; have f2 : wv.frozen? ⟨w2.heap.size, 2, none⟩ = false := (unhide HN3).frozen 2; clear hC hg hOb))
    all_goals
      go_wp2_with fail
      go_meet
      first
        | exact ⟨wv.heap.size, m, d, B, zs, rfl, Nat.le_trans hzl hgv, Nat.lt_of_lt_of_le hga2 hgv, hm, (unhide HT3).alloc _, Whl.here wv _ _, (OwnI.less (unhide HO3) hzl).alloc _⟩
        | exact ⟨w2.heap.size, m, d, B, zs, rfl, hzl, hga2, hm, (((unhide HT3).set (unhide HN3) hzl hgne 0 _).set ((unhide HN3).store 0 _) hzl hgne 1 _).set (((unhide HN3).store 0 _).store 1 _) hzl hgne 2 _, (unhide HN3).store3 _ _ _, OwnI.less ((((unhide HO3).setB' (a := ⟨w2.heap.size, 0, none⟩) hlo9 _).setB' (a := ⟨w2.heap.size, 1, none⟩) hlo9 _).setB' (a := ⟨w2.heap.size, 2, none⟩) hlo9 _) hlo8⟩
  case rest =>
    obtain ⟨gb, m, d, B, zs, rfl, hgb, hab, hm, hT, hKb, hOb⟩ := hcut
    clear HSM HSN HTN HKN HK2 k0 k1 k2 HT2 hln
    have hzg : z + 1 + 1 ≠ gb := by have := unhide hgb; omega
    have hzz : z + 1 + 1 < z + 3 := by omega
    have hne : ga ≠ gb := Nat.ne_of_lt (unhide hab)
    have hgb3 : z + 3 ≤ gb := unhide hgb
    go_wp2_with fail
    refine (pick_any (z + 1 + 1) n c (0 + 220 + 200) A xs 8 wc (unhide hT).cur hn2 (by omega) (by omega) (by omega)).mono ?_
    rintro e w5 ⟨x, rfl, ⟨hx0, hx1⟩, hC, hg⟩
    have HT5 := hide ((unhide hT).step hg hC)
    have HK5 := hide ((unhide hKb).gr hg hzg)
    have HO5 := hide ((unhide hOb).gr hg hzz)
    clear hC hg hT hKb hOb
    have hq5 : 0 + 220 + 200 + 2 ≤ 1000 := by omega
    generalize 0 + 220 + 200 + 2 = q5 at *
    -- the switch
    have y0 : w5.cell? ⟨gb, 0, none⟩ = some (.int .i64 st) := (unhide HK5).cell 0
    have y1 : w5.cell? ⟨gb, 1, none⟩ = some (.int .i64 mm) := (unhide HK5).cell 1
    have yf0 : w5.frozen? ⟨gb, 0, none⟩ = false := (unhide HK5).frozen 0
    have hla := (unhide HT5).la
    rcases (show x = 0 ∨ x = 1 ∨ 2 ≤ x by omega) with rfl | rfl | hx
    · have HTA := hide (((unhide HT5).alloc (.cells #[.int .i64 1, .int .i64 (-1)] 3)).drew)
      have HKA := hide (((unhide HK5).alloc (.cells #[.int .i64 1, .int .i64 (-1)] 3)).drew)
      have HOA := hide (((unhide HO5).alloc (.cells #[.int .i64 1, .int .i64 (-1)] 3)).dr)
      have hw5 : w5.heap.size ≠ z + 1 + 1 := by have := (unhide HK5).lt; omega
      have HAM := hide (among_at (z + 1 + 1) n c q5 w5.heap.size A xs (w5.alloc (.cells #[.int .i64 1, .int .i64 (-1)] 3)).drew [1, -1] 2 (fun _ => True) (Whl.here w5 3 _).drew hw5 rfl (by omega) (by omega) (by simp) (unhide HTA).cur hn2 (by omega))
      have y1a : ∀ o : Obj, (w5.alloc o).cell? ⟨gb, 1, none⟩ = some (.int .i64 mm) := fun o => cell_on y1 o
      go_wp2_with fail
      go_region_law (first
        | (go_simp; go_at_call 44; (with_reducible refine Calls.mono (unhide HAM) ?_); rintro e w6 ⟨y, rfl, _, hC, hg⟩; have HT6 := hide ((unhide HTA).step hg hC); have HK6 := hide ((unhide HKA).gr hg hzg); have HO6 := hide ((unhide HOA).gr hg hzz); have v1 : w6.cell? ⟨gb, 1, none⟩ = some (.int .i64 mm) := (unhide HK6).cell 1; have vf1 : w6.frozen? ⟨gb, 1, none⟩ = false := (unhide HK6).frozen 1; clear hC hg))
      all_goals
        generalize IntKind.i64.wrap (mm + y) = b9 at *
        have HT7 := hide ((unhide HT6).set (unhide HK6) hgb3 hne 1 (.int .i64 b9))
        have HK7 : Hid (Whl (w6.setCell ⟨gb, 1, none⟩ (.int .i64 b9)) gb 26 #[.int .i64 st, .int .i64 b9, .slice B m d]) := (unhide HK6).store 1 _
        have HO7 := hide (OwnI.apart (unhide HO6) (unhide HK6) trace_int_ne 1 (.int .i64 b9))
        clear HT5 HK5 HO5 y0 y1 yf0 HTA HKA HOA HAM y1a HT6 HK6 HO6 v1 vf1
        generalize w6.setCell ⟨gb, 1, none⟩ (.int .i64 b9) = w7 at *
        go_wp2_with fail
        have a0 : w7.cell? ⟨ga, 0, none⟩ = some (.int .i64 st) := (unhide HT7).ka.cell 0
        have a1 : w7.cell? ⟨ga, 1, none⟩ = some (.int .i64 sa) := (unhide HT7).ka.cell 1
        have a2 : w7.cell? ⟨ga, 2, none⟩ = some (.slice A' n' c') := (unhide HT7).ka.cell 2
        have b0 : w7.cell? ⟨gb, 0, none⟩ = some (.int .i64 st) := (unhide HK7).cell 0
        have b1 : w7.cell? ⟨gb, 1, none⟩ = some (.int .i64 b9) := (unhide HK7).cell 1
        have b2 : w7.cell? ⟨gb, 2, none⟩ = some (.slice B m d) := (unhide HK7).cell 2
        have c0 : w7.cell? ⟨z, 0, none⟩ = some (.int .i64 0) := (unhide HT7).za.cell 0
        have cf0 : w7.frozen? ⟨z, 0, none⟩ = false := (unhide HT7).za.frozen 0
        have d0 : w7.cell? ⟨z + 1, 0, none⟩ = some (.int .i64 0) := (unhide HT7).zb.cell 0
        have df0 : w7.frozen? ⟨z + 1, 0, none⟩ = false := (unhide HT7).zb.frozen 0
        have c1 : w7.cell? ⟨z, 1, none⟩ = some (.int .i64 0) := (unhide HT7).za.cell 1
        have cf1 : w7.frozen? ⟨z, 1, none⟩ = false := (unhide HT7).za.frozen 1
        have d1 : w7.cell? ⟨z + 1, 1, none⟩ = some (.int .i64 0) := (unhide HT7).zb.cell 1
        have df1 : w7.frozen? ⟨z + 1, 1, none⟩ = false := (unhide HT7).zb.frozen 1
        have c2 : w7.cell? ⟨z, 2, none⟩ = some (.slice none 0 0) := (unhide HT7).za.cell 2
        have cf2 : w7.frozen? ⟨z, 2, none⟩ = false := (unhide HT7).za.frozen 2
        have d2 : w7.cell? ⟨z + 1, 2, none⟩ = some (.slice none 0 0) := (unhide HT7).zb.cell 2
        have df2 : w7.frozen? ⟨z + 1, 2, none⟩ = false := (unhide HT7).zb.frozen 2
        have n1 : z ≠ ga := by omega
        have n2 : z + 1 ≠ ga := by omega
        have n3 : z ≠ gb := by omega
        have n4 : z + 1 ≠ gb := by omega
        have n5 : z + 1 ≠ z := by omega
        go_wp2_with fail
        go_region_held3 (fun w' => w'.cell? ⟨ga, 0, none⟩ = some (.int .i64 st) ∧ w'.cell? ⟨ga, 1, none⟩ = some (.int .i64 sa) ∧ w'.cell? ⟨ga, 2, none⟩ = some (.slice A' n' c') ∧ w'.cell? ⟨gb, 0, none⟩ = some (.int .i64 st) ∧ w'.cell? ⟨gb, 1, none⟩ = some (.int .i64 b9) ∧ w'.cell? ⟨gb, 2, none⟩ = some (.slice B m d))
          (first | go_keep | exact ⟨a0, a1, a2, b0, b1, b2⟩) (fail)
        clear a0 a1 a2 b0 b1 b2 c0 c1 c2 cf0 cf1 cf2 d0 d1 d2 df0 df1 df2
        have HW := hide (six_sets (unhide HT7).za (unhide HT7).zb (.int .i64 st) (.int .i64 sa) (.slice A' n' c') (.int .i64 st) (.int .i64 b9) (.slice B m d))
        have HQ := hide (six_own (unhide HT7).oa (.int .i64 st) (.int .i64 sa) (.slice A' n' c') (.int .i64 st) (.int .i64 b9) (.slice B m d))
        have HR := hide (six_own (unhide HO7) (.int .i64 st) (.int .i64 sa) (.slice A' n' c') (.int .i64 st) (.int .i64 b9) (.slice B m d))
        have HS := hide (six_below (unhide HBA) (by rw [(unhide HT7).l0]; omega) (unhide HT7).gr (.int .i64 st) (.int .i64 sa) (.slice A' n' c') (.int .i64 st) (.int .i64 b9) (.slice B m d))
        generalize ((((((w7.setCell ⟨z, 0, none⟩ (.int .i64 st)).setCell ⟨z, 1, none⟩ (.int .i64 sa)).setCell ⟨z, 2, none⟩ (.slice A' n' c')).setCell ⟨z + 1, 0, none⟩ (.int .i64 st)).setCell ⟨z + 1, 1, none⟩ (.int .i64 b9)).setCell ⟨z + 1, 2, none⟩ (.slice B m d)).drew = wz at *
        have e0 : wz.cell? ⟨z, 0, none⟩ = some (.int .i64 st) := (unhide HW).1.cell 0
        have e1 : wz.cell? ⟨z, 1, none⟩ = some (.int .i64 sa) := (unhide HW).1.cell 1
        have e2 : wz.cell? ⟨z, 2, none⟩ = some (.slice A' n' c') := (unhide HW).1.cell 2
        have g0 : wz.cell? ⟨z + 1, 0, none⟩ = some (.int .i64 st) := (unhide HW).2.cell 0
        have g1 : wz.cell? ⟨z + 1, 1, none⟩ = some (.int .i64 b9) := (unhide HW).2.cell 1
        have g2 : wz.cell? ⟨z + 1, 2, none⟩ = some (.slice B m d) := (unhide HW).2.cell 2
        go_wp2_with fail
        refine bodyPost_ret (v := .tuple #[.agg #[.int .i64 st, .int .i64 sa, .slice A' n' c'], .agg #[.int .i64 st, .int .i64 b9, .slice B m d]]) (by simp [results, Tryz.results17, go_sem, e0, e1, e2, g0, g1, g2]) rfl ?_
        obtain rfl := unhide HZZ
        exact ⟨_, _, A', n', c', ys, _, _, B, m, d, zs, rfl, OwnI.less (unhide HQ) (by omega), OwnI.less (unhide HR) (by omega), hn', hm, unhide HS⟩
    · go_wp2_with fail
      have HT6 := hide ((unhide HT5).set (unhide HK5) hgb3 hne 0 (.int .i64 5))
      have HK6 : Hid (Whl (w5.setCell ⟨gb, 0, none⟩ (.int .i64 5)) gb 26 #[.int .i64 5, .int .i64 mm, .slice B m d]) := (unhide HK5).store 0 _
      have HO6 := hide (OwnI.apart (unhide HO5) (unhide HK5) trace_int_ne 0 (.int .i64 5))
      clear HT5 HK5 HO5 y0 y1 yf0
      generalize w5.setCell ⟨gb, 0, none⟩ (.int .i64 5) = w6 at *
      have a0 : w6.cell? ⟨ga, 0, none⟩ = some (.int .i64 st) := (unhide HT6).ka.cell 0
      have a1 : w6.cell? ⟨ga, 1, none⟩ = some (.int .i64 sa) := (unhide HT6).ka.cell 1
      have a2 : w6.cell? ⟨ga, 2, none⟩ = some (.slice A' n' c') := (unhide HT6).ka.cell 2
      have b0 : w6.cell? ⟨gb, 0, none⟩ = some (.int .i64 5) := (unhide HK6).cell 0
      have b1 : w6.cell? ⟨gb, 1, none⟩ = some (.int .i64 mm) := (unhide HK6).cell 1
      have b2 : w6.cell? ⟨gb, 2, none⟩ = some (.slice B m d) := (unhide HK6).cell 2
      have c0 : w6.cell? ⟨z, 0, none⟩ = some (.int .i64 0) := (unhide HT6).za.cell 0
      have cf0 : w6.frozen? ⟨z, 0, none⟩ = false := (unhide HT6).za.frozen 0
      have d0 : w6.cell? ⟨z + 1, 0, none⟩ = some (.int .i64 0) := (unhide HT6).zb.cell 0
      have df0 : w6.frozen? ⟨z + 1, 0, none⟩ = false := (unhide HT6).zb.frozen 0
      have c1 : w6.cell? ⟨z, 1, none⟩ = some (.int .i64 0) := (unhide HT6).za.cell 1
      have cf1 : w6.frozen? ⟨z, 1, none⟩ = false := (unhide HT6).za.frozen 1
      have d1 : w6.cell? ⟨z + 1, 1, none⟩ = some (.int .i64 0) := (unhide HT6).zb.cell 1
      have df1 : w6.frozen? ⟨z + 1, 1, none⟩ = false := (unhide HT6).zb.frozen 1
      have c2 : w6.cell? ⟨z, 2, none⟩ = some (.slice none 0 0) := (unhide HT6).za.cell 2
      have cf2 : w6.frozen? ⟨z, 2, none⟩ = false := (unhide HT6).za.frozen 2
      have d2 : w6.cell? ⟨z + 1, 2, none⟩ = some (.slice none 0 0) := (unhide HT6).zb.cell 2
      have df2 : w6.frozen? ⟨z + 1, 2, none⟩ = false := (unhide HT6).zb.frozen 2
      have n1 : z ≠ ga := by omega
      have n2 : z + 1 ≠ ga := by omega
      have n3 : z ≠ gb := by omega
      have n4 : z + 1 ≠ gb := by omega
      have n5 : z + 1 ≠ z := by omega
      go_wp2_with fail
      go_region_held3 (fun w' => w'.cell? ⟨ga, 0, none⟩ = some (.int .i64 st) ∧ w'.cell? ⟨ga, 1, none⟩ = some (.int .i64 sa) ∧ w'.cell? ⟨ga, 2, none⟩ = some (.slice A' n' c') ∧ w'.cell? ⟨gb, 0, none⟩ = some (.int .i64 5) ∧ w'.cell? ⟨gb, 1, none⟩ = some (.int .i64 mm) ∧ w'.cell? ⟨gb, 2, none⟩ = some (.slice B m d))
        (first | go_keep | exact ⟨a0, a1, a2, b0, b1, b2⟩) (fail)
      clear a0 a1 a2 b0 b1 b2 c0 c1 c2 cf0 cf1 cf2 d0 d1 d2 df0 df1 df2
      have HW := hide (six_sets (unhide HT6).za (unhide HT6).zb (.int .i64 st) (.int .i64 sa) (.slice A' n' c') (.int .i64 5) (.int .i64 mm) (.slice B m d))
      have HQ := hide (six_own (unhide HT6).oa (.int .i64 st) (.int .i64 sa) (.slice A' n' c') (.int .i64 5) (.int .i64 mm) (.slice B m d))
      have HR := hide (six_own (unhide HO6) (.int .i64 st) (.int .i64 sa) (.slice A' n' c') (.int .i64 5) (.int .i64 mm) (.slice B m d))
      have HS := hide (six_below (unhide HBA) (by rw [(unhide HT6).l0]; omega) (unhide HT6).gr (.int .i64 st) (.int .i64 sa) (.slice A' n' c') (.int .i64 5) (.int .i64 mm) (.slice B m d))
      generalize ((((((w6.setCell ⟨z, 0, none⟩ (.int .i64 st)).setCell ⟨z, 1, none⟩ (.int .i64 sa)).setCell ⟨z, 2, none⟩ (.slice A' n' c')).setCell ⟨z + 1, 0, none⟩ (.int .i64 5)).setCell ⟨z + 1, 1, none⟩ (.int .i64 mm)).setCell ⟨z + 1, 2, none⟩ (.slice B m d)).drew = wz at *
      have e0 : wz.cell? ⟨z, 0, none⟩ = some (.int .i64 st) := (unhide HW).1.cell 0
      have e1 : wz.cell? ⟨z, 1, none⟩ = some (.int .i64 sa) := (unhide HW).1.cell 1
      have e2 : wz.cell? ⟨z, 2, none⟩ = some (.slice A' n' c') := (unhide HW).1.cell 2
      have g0 : wz.cell? ⟨z + 1, 0, none⟩ = some (.int .i64 5) := (unhide HW).2.cell 0
      have g1 : wz.cell? ⟨z + 1, 1, none⟩ = some (.int .i64 mm) := (unhide HW).2.cell 1
      have g2 : wz.cell? ⟨z + 1, 2, none⟩ = some (.slice B m d) := (unhide HW).2.cell 2
      go_wp2_with fail
      refine bodyPost_ret (v := .tuple #[.agg #[.int .i64 st, .int .i64 sa, .slice A' n' c'], .agg #[.int .i64 5, .int .i64 mm, .slice B m d]]) (by simp [results, Tryz.results17, go_sem, e0, e1, e2, g0, g1, g2]) rfl ?_
      obtain rfl := unhide HZZ
      exact ⟨_, _, A', n', c', ys, _, _, B, m, d, zs, rfl, OwnI.less (unhide HQ) (by omega), OwnI.less (unhide HR) (by omega), hn', hm, unhide HS⟩
    · have e0 : (x == 0) = false := beq_eq_false_iff_ne.2 (by omega)
      have e1 : (x == 1) = false := beq_eq_false_iff_ne.2 (by omega)
      clear y0 y1 yf0
      have a0 : w5.cell? ⟨ga, 0, none⟩ = some (.int .i64 st) := (unhide HT5).ka.cell 0
      have a1 : w5.cell? ⟨ga, 1, none⟩ = some (.int .i64 sa) := (unhide HT5).ka.cell 1
      have a2 : w5.cell? ⟨ga, 2, none⟩ = some (.slice A' n' c') := (unhide HT5).ka.cell 2
      have b0 : w5.cell? ⟨gb, 0, none⟩ = some (.int .i64 st) := (unhide HK5).cell 0
      have b1 : w5.cell? ⟨gb, 1, none⟩ = some (.int .i64 mm) := (unhide HK5).cell 1
      have b2 : w5.cell? ⟨gb, 2, none⟩ = some (.slice B m d) := (unhide HK5).cell 2
      have c0 : w5.cell? ⟨z, 0, none⟩ = some (.int .i64 0) := (unhide HT5).za.cell 0
      have cf0 : w5.frozen? ⟨z, 0, none⟩ = false := (unhide HT5).za.frozen 0
      have d0 : w5.cell? ⟨z + 1, 0, none⟩ = some (.int .i64 0) := (unhide HT5).zb.cell 0
      have df0 : w5.frozen? ⟨z + 1, 0, none⟩ = false := (unhide HT5).zb.frozen 0
      have c1 : w5.cell? ⟨z, 1, none⟩ = some (.int .i64 0) := (unhide HT5).za.cell 1
      have cf1 : w5.frozen? ⟨z, 1, none⟩ = false := (unhide HT5).za.frozen 1
      have d1 : w5.cell? ⟨z + 1, 1, none⟩ = some (.int .i64 0) := (unhide HT5).zb.cell 1
      have df1 : w5.frozen? ⟨z + 1, 1, none⟩ = false := (unhide HT5).zb.frozen 1
      have c2 : w5.cell? ⟨z, 2, none⟩ = some (.slice none 0 0) := (unhide HT5).za.cell 2
      have cf2 : w5.frozen? ⟨z, 2, none⟩ = false := (unhide HT5).za.frozen 2
      have d2 : w5.cell? ⟨z + 1, 2, none⟩ = some (.slice none 0 0) := (unhide HT5).zb.cell 2
      have df2 : w5.frozen? ⟨z + 1, 2, none⟩ = false := (unhide HT5).zb.frozen 2
      have n1 : z ≠ ga := by omega
      have n2 : z + 1 ≠ ga := by omega
      have n3 : z ≠ gb := by omega
      have n4 : z + 1 ≠ gb := by omega
      have n5 : z + 1 ≠ z := by omega
      go_wp2_with fail
      go_region_held3 (fun w' => w'.cell? ⟨ga, 0, none⟩ = some (.int .i64 st) ∧ w'.cell? ⟨ga, 1, none⟩ = some (.int .i64 sa) ∧ w'.cell? ⟨ga, 2, none⟩ = some (.slice A' n' c') ∧ w'.cell? ⟨gb, 0, none⟩ = some (.int .i64 st) ∧ w'.cell? ⟨gb, 1, none⟩ = some (.int .i64 mm) ∧ w'.cell? ⟨gb, 2, none⟩ = some (.slice B m d))
        (first | go_keep | exact ⟨a0, a1, a2, b0, b1, b2⟩) (fail)
      clear a0 a1 a2 b0 b1 b2 c0 c1 c2 cf0 cf1 cf2 d0 d1 d2 df0 df1 df2
      have HW := hide (six_sets (unhide HT5).za (unhide HT5).zb (.int .i64 st) (.int .i64 sa) (.slice A' n' c') (.int .i64 st) (.int .i64 mm) (.slice B m d))
      have HQ := hide (six_own (unhide HT5).oa (.int .i64 st) (.int .i64 sa) (.slice A' n' c') (.int .i64 st) (.int .i64 mm) (.slice B m d))
      have HR := hide (six_own (unhide HO5) (.int .i64 st) (.int .i64 sa) (.slice A' n' c') (.int .i64 st) (.int .i64 mm) (.slice B m d))
      have HS := hide (six_below (unhide HBA) (by rw [(unhide HT5).l0]; omega) (unhide HT5).gr (.int .i64 st) (.int .i64 sa) (.slice A' n' c') (.int .i64 st) (.int .i64 mm) (.slice B m d))
      generalize ((((((w5.setCell ⟨z, 0, none⟩ (.int .i64 st)).setCell ⟨z, 1, none⟩ (.int .i64 sa)).setCell ⟨z, 2, none⟩ (.slice A' n' c')).setCell ⟨z + 1, 0, none⟩ (.int .i64 st)).setCell ⟨z + 1, 1, none⟩ (.int .i64 mm)).setCell ⟨z + 1, 2, none⟩ (.slice B m d)).drew = wz at *
      have e0 : wz.cell? ⟨z, 0, none⟩ = some (.int .i64 st) := (unhide HW).1.cell 0
      have e1 : wz.cell? ⟨z, 1, none⟩ = some (.int .i64 sa) := (unhide HW).1.cell 1
      have e2 : wz.cell? ⟨z, 2, none⟩ = some (.slice A' n' c') := (unhide HW).1.cell 2
      have g0 : wz.cell? ⟨z + 1, 0, none⟩ = some (.int .i64 st) := (unhide HW).2.cell 0
      have g1 : wz.cell? ⟨z + 1, 1, none⟩ = some (.int .i64 mm) := (unhide HW).2.cell 1
      have g2 : wz.cell? ⟨z + 1, 2, none⟩ = some (.slice B m d) := (unhide HW).2.cell 2
      go_wp2_with fail
      refine bodyPost_ret (v := .tuple #[.agg #[.int .i64 st, .int .i64 sa, .slice A' n' c'], .agg #[.int .i64 st, .int .i64 mm, .slice B m d]]) (by simp [results, Tryz.results17, go_sem, e0, e1, e2, g0, g1, g2]) rfl ?_
      obtain rfl := unhide HZZ
      exact ⟨_, _, A', n', c', ys, _, _, B, m, d, zs, rfl, OwnI.less (unhide HQ) (by omega), OwnI.less (unhide HR) (by omega), hn', hm, unhide HS⟩
end Go.Proofs.YtdpmpdhhjmbbcaaGreatDoor
