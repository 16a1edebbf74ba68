/- The walk of the law FnExactParseTrace: it says true, at every input; what was there stays as it was. By gen_law2.py. -/
import Derived.Test.YtdpmpdhhjmbbcaaDoorProg
import Derived.Test.YtdpmpdhhjmbbcaaDoorTraceA
import Derived.Test.YtdpmpdhhjmbbcaaDoorParB
import Derived.Deep.RegionHeld3
namespace Go.Proofs.YtdpmpdhhjmbbcaaDoor
open Go.RowKit
set_option linter.unusedVariables false

set_option maxHeartbeats 4000000 in
set_option maxRecDepth 100000 in
theorem law_ParseTrace (a0 : ByteArray) (w : World) (hi0 : a0.size ≤ 9223372036854775807) (hv : EnvP w) :
    Calls Tryd.prog 4 #[.string a0] w fun e w' => e = .returned (.bool true) ∧ Below w.heap.size w w' := by
  by_cases hsz0 : 1048576 < a0.size
  · have hl : (1048576 : Int) < (a0.size : Int) := by omega
    go_enter Tryd.func4, Tryd.ntmps4
    go_wp2_with fail
    go_ret
    exact ⟨rfl, Below.refl _ _⟩
  have hle0 : a0.size ≤ 1048576 := by omega
  have hl0 : ¬ (1048576 : Int) < (a0.size : Int) := by omega
  obtain ⟨ra0, rb0, ys0, r1, HS, HI, HY0⟩ : ∃ (ra0 rb0 : Int) (ys0 : List Int) (r1 : Bool), Hid (∀ (W : World), Calls Tryd.prog 10 #[.string a0] W (RetTB W ra0 rb0 ys0 r1)) ∧ Hid (∀ (W : World), EnvP W → Calls Tryd.prog 11 #[.string a0] W (RetTB W ra0 rb0 ys0 r1)) ∧ Hid (ys0.length ≤ 2097152) :=
    ⟨_, _, _, _, fun W   => specParse_any a0 W hle0, fun W hv   => implParse_any a0 W hle0 hv, by unfold Hid; have := prR_len a0; omega⟩
  have HV := hide hv
  clear hv
  have HB0 := hide (Below.refl w.heap.size w)
  go_enter Tryd.func4, Tryd.ntmps4
  go_wp2_with fail
  refine (unhide HS _ ).mono ?_
  rintro e w1 ⟨A_w0, n_w0, c_w0, rfl, hO1_0, hb1⟩
  have hn_w0 : n_w0 ≤ 2097152 := by have := hO1_0.len; have := unhide HY0; omega
  have hP1_0 : OwnI w1 (w.heap.size + 0) A_w0 n_w0 c_w0 ys0 := hO1_0.less (by simp)
  clear hO1_0
  have hq1 := hb1
  have z1 : w.heap.size + 0 ≤ w1.heap.size := by have := hb1.size; (try simp at this); omega
  have HB1 := hide ((unhide HB0).trans (hq1.mono (unhide HB0).size))
  clear hb1 hq1 HB0
  have Ow0_1 := hide (ownR_of (hP1_0))
  clear hP1_0
  go_wp2_with fail
  refine (unhide HI _ (((unhide HV).stays (unhide HB1)).stays ((Below.refl _ _).alloc (Nat.le_refl _) _)) ).mono ?_
  rintro e w2 ⟨A_g0, n_g0, c_g0, rfl, hO2_0, hb2⟩
  have hn_g0 : n_g0 ≤ 2097152 := by have := hO2_0.len; have := unhide HY0; omega
  have hP2_0 : OwnI w2 (w1.heap.size + 1) A_g0 n_g0 c_g0 ys0 := hO2_0.less (by simp)
  clear hO2_0
  have hq2 : Below w1.heap.size w1 w2 := (((Below.refl _ w1)).alloc (by simp <;> omega) _).trans (hb2.mono (by simp <;> omega))
  have z2 : w1.heap.size + 1 ≤ w2.heap.size := by have := hb2.size; (try simp at this); omega
  have HB2 := hide ((unhide HB1).trans (hq2.mono (unhide HB1).size))
  have Ow0_2 := hide ((unhide Ow0_1).below hq2 (Nat.le_refl _))
  clear Ow0_1
  have mw0_0_2 : w2.cell? ⟨w1.heap.size, 0, none⟩ = some (.int .i64 ra0) := (hb2.cell (p := ⟨w1.heap.size, 0, none⟩) (by simp <;> omega)).trans (by simp)
  have mw0_1_2 : w2.cell? ⟨w1.heap.size, 1, none⟩ = some (.int .i64 rb0) := (hb2.cell (p := ⟨w1.heap.size, 1, none⟩) (by simp <;> omega)).trans (by simp)
  have mw0_2_2 : w2.cell? ⟨w1.heap.size, 2, none⟩ = some (.slice A_w0 n_w0 c_w0) := (hb2.cell (p := ⟨w1.heap.size, 2, none⟩) (by simp <;> omega)).trans (by simp)
  have lw0_2 : w1.heap.size < w2.heap.size := by omega
  clear hb2 hq2 HB1
  have Og0_2 := hide (ownR_of (hP2_0))
  clear hP2_0
  have qw0_0_2 : ∀ o : Obj, (w2.alloc o).cell? ⟨w1.heap.size, 0, none⟩ = some (.int .i64 ra0) := fun o => (World.cell?_alloc_lt w2 o ⟨w1.heap.size, 0, none⟩ lw0_2).trans mw0_0_2
  have qw0_1_2 : ∀ o : Obj, (w2.alloc o).cell? ⟨w1.heap.size, 1, none⟩ = some (.int .i64 rb0) := fun o => (World.cell?_alloc_lt w2 o ⟨w1.heap.size, 1, none⟩ lw0_2).trans mw0_1_2
  have qw0_2_2 : ∀ o : Obj, (w2.alloc o).cell? ⟨w1.heap.size, 2, none⟩ = some (.slice A_w0 n_w0 c_w0) := fun o => (World.cell?_alloc_lt w2 o ⟨w1.heap.size, 2, none⟩ lw0_2).trans mw0_2_2
  go_wp2_with fail
  refine (eqTrace_any ra0 rb0 ra0 rb0 A_g0 A_w0 n_g0 n_w0 c_g0 c_w0 ys0 ys0 _ ((((unhide Og0_2).ri).alloc (Nat.le_refl _) _).more (by simp)) ((((unhide Ow0_2).ri).alloc (Nat.le_refl _) _).more (by simp)) (unhide Og0_2).max (unhide Ow0_2).max).mono ?_
  rintro e w3 ⟨rfl, hb3⟩
  have hq3 : Below w2.heap.size w2 w3 := (((Below.refl _ w2)).alloc (by simp <;> omega) _).trans (hb3.mono (by simp <;> omega))
  have z3 : w2.heap.size + 1 ≤ w3.heap.size := by have := hb3.size; (try simp at this); omega
  have HB3 := hide ((unhide HB2).trans (hq3.mono (unhide HB2).size))
  have Ow0_3 := hide ((unhide Ow0_2).below hq3 (Nat.le_refl _))
  clear Ow0_2
  have Og0_3 := hide ((unhide Og0_2).below hq3 (Nat.le_refl _))
  clear Og0_2
  have mw0_0_3 : w3.cell? ⟨w1.heap.size, 0, none⟩ = some (.int .i64 ra0) := (hq3.cell (p := ⟨w1.heap.size, 0, none⟩) lw0_2).trans mw0_0_2
  have mw0_1_3 : w3.cell? ⟨w1.heap.size, 1, none⟩ = some (.int .i64 rb0) := (hq3.cell (p := ⟨w1.heap.size, 1, none⟩) lw0_2).trans mw0_1_2
  have mw0_2_3 : w3.cell? ⟨w1.heap.size, 2, none⟩ = some (.slice A_w0 n_w0 c_w0) := (hq3.cell (p := ⟨w1.heap.size, 2, none⟩) lw0_2).trans mw0_2_2
  have lw0_3 : w1.heap.size < w3.heap.size := Nat.lt_of_lt_of_le lw0_2 hq3.size
  clear mw0_0_2 mw0_1_2 mw0_2_2 lw0_2 qw0_0_2 qw0_1_2 qw0_2_2
  have mg0_0_3 : w3.cell? ⟨w2.heap.size, 0, none⟩ = some (.int .i64 ra0) := (hb3.cell (p := ⟨w2.heap.size, 0, none⟩) (by simp <;> omega)).trans (by simp)
  have mg0_1_3 : w3.cell? ⟨w2.heap.size, 1, none⟩ = some (.int .i64 rb0) := (hb3.cell (p := ⟨w2.heap.size, 1, none⟩) (by simp <;> omega)).trans (by simp)
  have mg0_2_3 : w3.cell? ⟨w2.heap.size, 2, none⟩ = some (.slice A_g0 n_g0 c_g0) := (hb3.cell (p := ⟨w2.heap.size, 2, none⟩) (by simp <;> omega)).trans (by simp)
  have lg0_3 : w2.heap.size < w3.heap.size := by omega
  clear hb3 hq3 HB2
  go_wp2_with fail
  refine (markTrace_any ra0 rb0 A_g0 n_g0 c_g0 _ ys0 _ _ (unhide Og0_3).1 (by omega) (by omega) (by omega)).mono ?_
  rintro e w4 ⟨rfl, hO4, hg4⟩
  have z4 : w3.heap.size + 0 ≤ w4.heap.size := hg4.size
  have HB4 := hide ((unhide Og0_3).grown (unhide HB3) (by omega) (unhide HB3).size hg4)
  have Ow0_4 := hide ((unhide Ow0_3).kept hg4 (unhide Og0_3) (by omega))
  clear Ow0_3
  have new0_4 : some (w1.heap.size) ≠ (Value.slice A_g0 n_g0 c_g0).ownBlock := fun e => by have h1 := World.ownsRow.lt (unhide Og0_3).1 _ e.symm; have h2 := (unhide Og0_3).2 _ e.symm; omega
  have mw0_0_4 : w4.cell? ⟨w1.heap.size, 0, none⟩ = some (.int .i64 ra0) := (World.cell?_of_block (a := ⟨w1.heap.size, 0, none⟩) (hg4.block _ lw0_3 new0_4)).trans mw0_0_3
  have mw0_1_4 : w4.cell? ⟨w1.heap.size, 1, none⟩ = some (.int .i64 rb0) := (World.cell?_of_block (a := ⟨w1.heap.size, 1, none⟩) (hg4.block _ lw0_3 new0_4)).trans mw0_1_3
  have mw0_2_4 : w4.cell? ⟨w1.heap.size, 2, none⟩ = some (.slice A_w0 n_w0 c_w0) := (World.cell?_of_block (a := ⟨w1.heap.size, 2, none⟩) (hg4.block _ lw0_3 new0_4)).trans mw0_2_3
  have lw0_4 : w1.heap.size < w4.heap.size := Nat.lt_of_lt_of_le lw0_3 hg4.size
  clear mw0_0_3 mw0_1_3 mw0_2_3 lw0_3 new0_4 
  have neg0_4 : some (w2.heap.size) ≠ (Value.slice A_g0 n_g0 c_g0).ownBlock := fun e => by have h1 := World.ownsRow.lt (unhide Og0_3).1 _ e.symm; have h2 := (unhide Og0_3).2 _ e.symm; omega
  have mg0_0_4 : w4.cell? ⟨w2.heap.size, 0, none⟩ = some (.int .i64 ra0) := (World.cell?_of_block (a := ⟨w2.heap.size, 0, none⟩) (hg4.block _ lg0_3 neg0_4)).trans mg0_0_3
  have mg0_1_4 : w4.cell? ⟨w2.heap.size, 1, none⟩ = some (.int .i64 rb0) := (World.cell?_of_block (a := ⟨w2.heap.size, 1, none⟩) (hg4.block _ lg0_3 neg0_4)).trans mg0_1_3
  have mg0_2_4 : w4.cell? ⟨w2.heap.size, 2, none⟩ = some (.slice A_g0 n_g0 c_g0) := (World.cell?_of_block (a := ⟨w2.heap.size, 2, none⟩) (hg4.block _ lg0_3 neg0_4)).trans mg0_2_3
  have lg0_4 : w2.heap.size < w4.heap.size := Nat.lt_of_lt_of_le lg0_3 hg4.size
  clear mg0_0_3 mg0_1_3 mg0_2_3 lg0_3 neg0_4 
  have Og0_4 : Hid (OwnR _ _ _ _ _ _ _ _ _) := ⟨hO4, (unhide Og0_3).2⟩
  clear Og0_3 hO4 hg4 HB3
  go_wp2_with fail
  refine (heldTrace_any ra0 rb0 A_g0 n_g0 c_g0 _ _ ((unhide Og0_4).ri) (by omega) (by omega) (by omega)).mono ?_
  rintro e w5 ⟨rfl, hb5⟩
  have hq5 := hb5
  have z5 : w4.heap.size + 0 ≤ w5.heap.size := by have := hb5.size; (try simp at this); omega
  have HB5 := hide ((unhide HB4).trans (hq5.mono (unhide HB4).size))
  have Ow0_5 := hide ((unhide Ow0_4).below hq5 (Nat.le_refl _))
  clear Ow0_4
  have Og0_5 := hide ((unhide Og0_4).below hq5 (Nat.le_refl _))
  clear Og0_4
  have mw0_0_5 : w5.cell? ⟨w1.heap.size, 0, none⟩ = some (.int .i64 ra0) := (hq5.cell (p := ⟨w1.heap.size, 0, none⟩) lw0_4).trans mw0_0_4
  have mw0_1_5 : w5.cell? ⟨w1.heap.size, 1, none⟩ = some (.int .i64 rb0) := (hq5.cell (p := ⟨w1.heap.size, 1, none⟩) lw0_4).trans mw0_1_4
  have mw0_2_5 : w5.cell? ⟨w1.heap.size, 2, none⟩ = some (.slice A_w0 n_w0 c_w0) := (hq5.cell (p := ⟨w1.heap.size, 2, none⟩) lw0_4).trans mw0_2_4
  have lw0_5 : w1.heap.size < w5.heap.size := Nat.lt_of_lt_of_le lw0_4 hq5.size
  clear mw0_0_4 mw0_1_4 mw0_2_4 lw0_4 
  have mg0_0_5 : w5.cell? ⟨w2.heap.size, 0, none⟩ = some (.int .i64 ra0) := (hq5.cell (p := ⟨w2.heap.size, 0, none⟩) lg0_4).trans mg0_0_4
  have mg0_1_5 : w5.cell? ⟨w2.heap.size, 1, none⟩ = some (.int .i64 rb0) := (hq5.cell (p := ⟨w2.heap.size, 1, none⟩) lg0_4).trans mg0_1_4
  have mg0_2_5 : w5.cell? ⟨w2.heap.size, 2, none⟩ = some (.slice A_g0 n_g0 c_g0) := (hq5.cell (p := ⟨w2.heap.size, 2, none⟩) lg0_4).trans mg0_2_4
  have lg0_5 : w2.heap.size < w5.heap.size := Nat.lt_of_lt_of_le lg0_4 hq5.size
  clear mg0_0_4 mg0_1_4 mg0_2_4 lg0_4 
  clear hb5 hq5 HB4
  go_wp2_with fail
  refine (unhide HI _ ((unhide HV).stays (unhide HB5)) ).mono ?_
  rintro e w6 ⟨A_h0, n_h0, c_h0, rfl, hO6_0, hb6⟩
  have hn_h0 : n_h0 ≤ 2097152 := by have := hO6_0.len; have := unhide HY0; omega
  have hP6_0 : OwnI w6 (w5.heap.size + 0) A_h0 n_h0 c_h0 ys0 := hO6_0.less (by simp)
  clear hO6_0
  have hq6 := hb6
  have z6 : w5.heap.size + 0 ≤ w6.heap.size := by have := hb6.size; (try simp at this); omega
  have HB6 := hide ((unhide HB5).trans (hq6.mono (unhide HB5).size))
  have Ow0_6 := hide ((unhide Ow0_5).below hq6 (Nat.le_refl _))
  clear Ow0_5
  have Og0_6 := hide ((unhide Og0_5).below hq6 (Nat.le_refl _))
  clear Og0_5
  have mw0_0_6 : w6.cell? ⟨w1.heap.size, 0, none⟩ = some (.int .i64 ra0) := (hq6.cell (p := ⟨w1.heap.size, 0, none⟩) lw0_5).trans mw0_0_5
  have mw0_1_6 : w6.cell? ⟨w1.heap.size, 1, none⟩ = some (.int .i64 rb0) := (hq6.cell (p := ⟨w1.heap.size, 1, none⟩) lw0_5).trans mw0_1_5
  have mw0_2_6 : w6.cell? ⟨w1.heap.size, 2, none⟩ = some (.slice A_w0 n_w0 c_w0) := (hq6.cell (p := ⟨w1.heap.size, 2, none⟩) lw0_5).trans mw0_2_5
  have lw0_6 : w1.heap.size < w6.heap.size := Nat.lt_of_lt_of_le lw0_5 hq6.size
  clear mw0_0_5 mw0_1_5 mw0_2_5 lw0_5 
  have mg0_0_6 : w6.cell? ⟨w2.heap.size, 0, none⟩ = some (.int .i64 ra0) := (hq6.cell (p := ⟨w2.heap.size, 0, none⟩) lg0_5).trans mg0_0_5
  have mg0_1_6 : w6.cell? ⟨w2.heap.size, 1, none⟩ = some (.int .i64 rb0) := (hq6.cell (p := ⟨w2.heap.size, 1, none⟩) lg0_5).trans mg0_1_5
  have mg0_2_6 : w6.cell? ⟨w2.heap.size, 2, none⟩ = some (.slice A_g0 n_g0 c_g0) := (hq6.cell (p := ⟨w2.heap.size, 2, none⟩) lg0_5).trans mg0_2_5
  have lg0_6 : w2.heap.size < w6.heap.size := Nat.lt_of_lt_of_le lg0_5 hq6.size
  clear mg0_0_5 mg0_1_5 mg0_2_5 lg0_5 
  clear hb6 hq6 HB5
  have Oh0_6 := hide (ownR_of (hP6_0))
  clear hP6_0
  have qw0_0_6 : ∀ o : Obj, (w6.alloc o).cell? ⟨w1.heap.size, 0, none⟩ = some (.int .i64 ra0) := fun o => (World.cell?_alloc_lt w6 o ⟨w1.heap.size, 0, none⟩ lw0_6).trans mw0_0_6
  have qw0_1_6 : ∀ o : Obj, (w6.alloc o).cell? ⟨w1.heap.size, 1, none⟩ = some (.int .i64 rb0) := fun o => (World.cell?_alloc_lt w6 o ⟨w1.heap.size, 1, none⟩ lw0_6).trans mw0_1_6
  have qw0_2_6 : ∀ o : Obj, (w6.alloc o).cell? ⟨w1.heap.size, 2, none⟩ = some (.slice A_w0 n_w0 c_w0) := fun o => (World.cell?_alloc_lt w6 o ⟨w1.heap.size, 2, none⟩ lw0_6).trans mw0_2_6
  have qg0_0_6 : ∀ o : Obj, (w6.alloc o).cell? ⟨w2.heap.size, 0, none⟩ = some (.int .i64 ra0) := fun o => (World.cell?_alloc_lt w6 o ⟨w2.heap.size, 0, none⟩ lg0_6).trans mg0_0_6
  have qg0_1_6 : ∀ o : Obj, (w6.alloc o).cell? ⟨w2.heap.size, 1, none⟩ = some (.int .i64 rb0) := fun o => (World.cell?_alloc_lt w6 o ⟨w2.heap.size, 1, none⟩ lg0_6).trans mg0_1_6
  have qg0_2_6 : ∀ o : Obj, (w6.alloc o).cell? ⟨w2.heap.size, 2, none⟩ = some (.slice A_g0 n_g0 c_g0) := fun o => (World.cell?_alloc_lt w6 o ⟨w2.heap.size, 2, none⟩ lg0_6).trans mg0_2_6
  go_wp2_with fail
  refine (eqTrace_any ra0 rb0 ra0 rb0 A_h0 A_w0 n_h0 n_w0 c_h0 c_w0 ys0 ys0 _ ((((unhide Oh0_6).ri).alloc (Nat.le_refl _) _).more (by simp)) ((((unhide Ow0_6).ri).alloc (Nat.le_refl _) _).more (by simp)) (unhide Oh0_6).max (unhide Ow0_6).max).mono ?_
  rintro e w7 ⟨rfl, hb7⟩
  have hq7 : Below w6.heap.size w6 w7 := (((Below.refl _ w6)).alloc (by simp <;> omega) _).trans (hb7.mono (by simp <;> omega))
  have z7 : w6.heap.size + 1 ≤ w7.heap.size := by have := hb7.size; (try simp at this); omega
  have HB7 := hide ((unhide HB6).trans (hq7.mono (unhide HB6).size))
  have Ow0_7 := hide ((unhide Ow0_6).below hq7 (Nat.le_refl _))
  clear Ow0_6
  have Og0_7 := hide ((unhide Og0_6).below hq7 (Nat.le_refl _))
  clear Og0_6
  have Oh0_7 := hide ((unhide Oh0_6).below hq7 (Nat.le_refl _))
  clear Oh0_6
  have mw0_0_7 : w7.cell? ⟨w1.heap.size, 0, none⟩ = some (.int .i64 ra0) := (hq7.cell (p := ⟨w1.heap.size, 0, none⟩) lw0_6).trans mw0_0_6
  have mw0_1_7 : w7.cell? ⟨w1.heap.size, 1, none⟩ = some (.int .i64 rb0) := (hq7.cell (p := ⟨w1.heap.size, 1, none⟩) lw0_6).trans mw0_1_6
  have mw0_2_7 : w7.cell? ⟨w1.heap.size, 2, none⟩ = some (.slice A_w0 n_w0 c_w0) := (hq7.cell (p := ⟨w1.heap.size, 2, none⟩) lw0_6).trans mw0_2_6
  have lw0_7 : w1.heap.size < w7.heap.size := Nat.lt_of_lt_of_le lw0_6 hq7.size
  clear mw0_0_6 mw0_1_6 mw0_2_6 lw0_6 qw0_0_6 qw0_1_6 qw0_2_6
  have mg0_0_7 : w7.cell? ⟨w2.heap.size, 0, none⟩ = some (.int .i64 ra0) := (hq7.cell (p := ⟨w2.heap.size, 0, none⟩) lg0_6).trans mg0_0_6
  have mg0_1_7 : w7.cell? ⟨w2.heap.size, 1, none⟩ = some (.int .i64 rb0) := (hq7.cell (p := ⟨w2.heap.size, 1, none⟩) lg0_6).trans mg0_1_6
  have mg0_2_7 : w7.cell? ⟨w2.heap.size, 2, none⟩ = some (.slice A_g0 n_g0 c_g0) := (hq7.cell (p := ⟨w2.heap.size, 2, none⟩) lg0_6).trans mg0_2_6
  have lg0_7 : w2.heap.size < w7.heap.size := Nat.lt_of_lt_of_le lg0_6 hq7.size
  clear mg0_0_6 mg0_1_6 mg0_2_6 lg0_6 qg0_0_6 qg0_1_6 qg0_2_6
  have mh0_0_7 : w7.cell? ⟨w6.heap.size, 0, none⟩ = some (.int .i64 ra0) := (hb7.cell (p := ⟨w6.heap.size, 0, none⟩) (by simp <;> omega)).trans (by simp)
  have mh0_1_7 : w7.cell? ⟨w6.heap.size, 1, none⟩ = some (.int .i64 rb0) := (hb7.cell (p := ⟨w6.heap.size, 1, none⟩) (by simp <;> omega)).trans (by simp)
  have mh0_2_7 : w7.cell? ⟨w6.heap.size, 2, none⟩ = some (.slice A_h0 n_h0 c_h0) := (hb7.cell (p := ⟨w6.heap.size, 2, none⟩) (by simp <;> omega)).trans (by simp)
  have lh0_7 : w6.heap.size < w7.heap.size := by omega
  clear hb7 hq7 HB6
  go_wp2_with fail
  refine (heldTrace_any ra0 rb0 A_g0 n_g0 c_g0 _ _ ((unhide Og0_7).ri) (by omega) (by omega) (by omega)).mono ?_
  rintro e w8 ⟨rfl, hb8⟩
  have hq8 := hb8
  have z8 : w7.heap.size + 0 ≤ w8.heap.size := by have := hb8.size; (try simp at this); omega
  have HB8 := hide ((unhide HB7).trans (hq8.mono (unhide HB7).size))
  have Ow0_8 := hide ((unhide Ow0_7).below hq8 (Nat.le_refl _))
  clear Ow0_7
  have Og0_8 := hide ((unhide Og0_7).below hq8 (Nat.le_refl _))
  clear Og0_7
  have Oh0_8 := hide ((unhide Oh0_7).below hq8 (Nat.le_refl _))
  clear Oh0_7
  have mw0_0_8 : w8.cell? ⟨w1.heap.size, 0, none⟩ = some (.int .i64 ra0) := (hq8.cell (p := ⟨w1.heap.size, 0, none⟩) lw0_7).trans mw0_0_7
  have mw0_1_8 : w8.cell? ⟨w1.heap.size, 1, none⟩ = some (.int .i64 rb0) := (hq8.cell (p := ⟨w1.heap.size, 1, none⟩) lw0_7).trans mw0_1_7
  have mw0_2_8 : w8.cell? ⟨w1.heap.size, 2, none⟩ = some (.slice A_w0 n_w0 c_w0) := (hq8.cell (p := ⟨w1.heap.size, 2, none⟩) lw0_7).trans mw0_2_7
  have lw0_8 : w1.heap.size < w8.heap.size := Nat.lt_of_lt_of_le lw0_7 hq8.size
  clear mw0_0_7 mw0_1_7 mw0_2_7 lw0_7 
  have mg0_0_8 : w8.cell? ⟨w2.heap.size, 0, none⟩ = some (.int .i64 ra0) := (hq8.cell (p := ⟨w2.heap.size, 0, none⟩) lg0_7).trans mg0_0_7
  have mg0_1_8 : w8.cell? ⟨w2.heap.size, 1, none⟩ = some (.int .i64 rb0) := (hq8.cell (p := ⟨w2.heap.size, 1, none⟩) lg0_7).trans mg0_1_7
  have mg0_2_8 : w8.cell? ⟨w2.heap.size, 2, none⟩ = some (.slice A_g0 n_g0 c_g0) := (hq8.cell (p := ⟨w2.heap.size, 2, none⟩) lg0_7).trans mg0_2_7
  have lg0_8 : w2.heap.size < w8.heap.size := Nat.lt_of_lt_of_le lg0_7 hq8.size
  clear mg0_0_7 mg0_1_7 mg0_2_7 lg0_7 
  have mh0_0_8 : w8.cell? ⟨w6.heap.size, 0, none⟩ = some (.int .i64 ra0) := (hq8.cell (p := ⟨w6.heap.size, 0, none⟩) lh0_7).trans mh0_0_7
  have mh0_1_8 : w8.cell? ⟨w6.heap.size, 1, none⟩ = some (.int .i64 rb0) := (hq8.cell (p := ⟨w6.heap.size, 1, none⟩) lh0_7).trans mh0_1_7
  have mh0_2_8 : w8.cell? ⟨w6.heap.size, 2, none⟩ = some (.slice A_h0 n_h0 c_h0) := (hq8.cell (p := ⟨w6.heap.size, 2, none⟩) lh0_7).trans mh0_2_7
  have lh0_8 : w6.heap.size < w8.heap.size := Nat.lt_of_lt_of_le lh0_7 hq8.size
  clear mh0_0_7 mh0_1_7 mh0_2_7 lh0_7 
  clear hb8 hq8 HB7
  go_wp2_with fail
  go_ret
  exact ⟨rfl, unhide HB8⟩
end Go.Proofs.YtdpmpdhhjmbbcaaDoor
