/- What the row's condition and the world's shape give the walks of a trace that is read: strconv's table, its two errors, the longest needle. -/
import Derived.Test.YtdpmpdhhjmbbcaaGreatDoorRows
import Derived.Test.YtdpmpdhhjmbbcaaGreatDoorCutB
import Derived.Test.YtdpmpdhhjmbbcaaGreatDoorOpenT
import Derived.Test.YtdpmpdhhjmbbcaaGreatDoorShaped
import Derived.Shelf.Vars
import Derived.Lib.LaidTab
import Derived.MakeChecks
import Derived.ProofKit
import Derived.OpenShut
namespace Go.Proofs.YtdpmpdhhjmbbcaaGreatDoor
open Go.RowKit

theorem maxL_of {W : World} (h : W.ShapedOpen Tryz.prog) : MaxL W :=
  cell_of_shapedOpen_int (P := Tryz.prog) (g := 0) (t := 3) (zero := #[.int .i64 0]) h (of_decide_eq_true (by kernel_rfl)) (by kernel_rfl) rfl (by kernel_rfl) (by kernel_rfl) Tryz.underlying3
theorem gPow : Tryz.prog.globalNamed "internal/strconv.uint64pow10" = some 3 := by kernel_rfl
theorem tPow : ∃ t, (Tryz.prog.globals[3]?).map (·.type) = some t ∧ ∃ e, Tryz.prog.underlying t = some (.array 20 e) ∧ Tryz.prog.underlying e = some (.int .u64) ∧ Tryz.prog.cellsOf e = 1 ∧ Tryz.prog.cellsOf t = 20 :=
  ⟨_, rfl, 56, by kernel_rfl, by kernel_rfl, by kernel_rfl, by kernel_rfl⟩
theorem gSyn : Tryz.prog.globalNamed "strconv.ErrSyntax" = some 1 := by kernel_rfl
theorem gRng : Tryz.prog.globalNamed "strconv.ErrRange" = some 2 := by kernel_rfl
theorem tSyn : ∃ t ms, (Tryz.prog.globals[1]?).map (·.type) = some t ∧ Tryz.prog.underlying t = some (.interface ms) := ⟨71, _, by kernel_rfl, Tryz.underlying71⟩
theorem tRng : ∃ t ms, (Tryz.prog.globals[2]?).map (·.type) = some t ∧ Tryz.prog.underlying t = some (.interface ms) := ⟨71, _, by kernel_rfl, Tryz.underlying71⟩
theorem err_cell {W : World} {n : String} {g : Nat} {u v : Value} {cs : Array Value} (hg : Tryz.prog.globalNamed n = some g) (hv : W.var? Tryz.prog n = some cs) (h : cs.toList = [v]) : W.cell? ⟨g, 0, none⟩ = some v := by
  have := World.var?_cell hg hv 0
  obtain ⟨l⟩ := cs
  simp at h
  subst h
  simpa using this
theorem tab3 {d0 d1 : String × DataW Unit} {rest : List (String × DataW Unit)} {W : World} (h : laidMet Tryz.prog (d0 :: d1 :: ("internal/strconv.uint64pow10", Rows.laid_internal_strconv_uint64pow10) :: rest) W) : Tab W := by
  obtain ⟨ps, ⟨g0, t0, cs0, f0, p0, q0, hg0, ht0, hv0, hd0, ⟨g1, t1, cs1, f1, p1, q1, hg1, ht1, hv1, hd1, ⟨g2, t2, cs2, f2, p2, q2, hg2, ht2, hv2, hd2, _, _⟩, _⟩, _⟩, _⟩ := h
  obtain ⟨t, hty, e, hu, he, hce, hct⟩ := tPow
  obtain rfl := Option.some.inj (gPow.symm.trans hg2)
  obtain rfl := Option.some.inj (hty.symm.trans ht2)
  have hd : DataW.trod _ Tryz.prog W 0 _ _ f2 t cs2.toList = some (Lib.tabData .u64 Lib.pow10Tab, p2) := hd2
  unfold Tab Lib.TabIs
  rw [hv2, ← Lib.cells_of_tab hu he hce hct hd]
theorem errs6 {d0 d1 d2 d3 : String × DataW Unit} {rest : List (String × DataW Unit)} {W : World} (h : laidMet Tryz.prog (d0 :: d1 :: d2 :: d3 :: ("strconv.ErrRange", Rows.laid_strconv_ErrRange) :: ("strconv.ErrSyntax", Rows.laid_strconv_ErrSyntax) :: rest) W) : ErrV 1 W ∧ ErrV 2 W := by
  obtain ⟨ps, ⟨g0, t0, cs0, f0, p0, q0, hg0, ht0, hv0, hd0, ⟨g1, t1, cs1, f1, p1, q1, hg1, ht1, hv1, hd1, ⟨g2, t2, cs2, f2, p2, q2, hg2, ht2, hv2, hd2, ⟨g3, t3, cs3, f3, p3, q3, hg3, ht3, hv3, hd3, ⟨g4, t4, cs4, f4, p4, q4, hg4, ht4, hv4, hd4, ⟨g5, t5, cs5, f5, p5, q5, hg5, ht5, hv5, hd5, _, _⟩, _⟩, _⟩, _⟩, _⟩, _⟩, _⟩ := h
  obtain ⟨t, ms, hty, hu⟩ := tSyn
  obtain ⟨u, ns, hry, hr⟩ := tRng
  obtain rfl := Option.some.inj (gSyn.symm.trans hg5)
  obtain rfl := Option.some.inj (gRng.symm.trans hg4)
  obtain rfl := Option.some.inj (hty.symm.trans ht5)
  obtain rfl := Option.some.inj (hry.symm.trans ht4)
  obtain ⟨_, a, b, e5, _⟩ := iface_of_trod hu hd5
  obtain ⟨_, c, d, e4, _⟩ := iface_of_trod hr hd4
  exact ⟨⟨_, err_cell (u := .nilIface) gSyn hv5 e5, .inr ⟨_, _, rfl⟩⟩, ⟨_, err_cell (u := .nilIface) gRng hv4 e4, .inr ⟨_, _, rfl⟩⟩⟩
theorem laidTrs {W : World} (h : laidMetH Tryz.prog Rows.fnTracesRow.laid W) (hs : W.ShapedOpen Tryz.prog) : EnvP W := by
  rw [MakeChecks.laidMetH_plain _ _ _ (by kernel_rfl)] at h
  exact ⟨tab3 h, maxL_of hs, (errs6 h).1, (errs6 h).2⟩
end Go.Proofs.YtdpmpdhhjmbbcaaGreatDoor
