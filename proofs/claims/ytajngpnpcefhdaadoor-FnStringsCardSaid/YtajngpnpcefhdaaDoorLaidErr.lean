/- What the rows' condition gives the walks: the two errors of strconv besides. -/
import Derived.Test.YtajngpnpcefhdaaDoorRows
import Derived.Test.YtajngpnpcefhdaaDoorLaidNum
import Derived.Test.YtajngpnpcefhdaaDoorLaidEnv
import Derived.Test.YtajngpnpcefhdaaDoorParse
namespace Go.Proofs.YtajngpnpcefhdaaDoor
open Go.RowKit

theorem gSyn : Tryd.prog.globalNamed "strconv.ErrSyntax" = some 1 := by kernel_rfl
theorem gRng : Tryd.prog.globalNamed "strconv.ErrRange" = some 2 := by kernel_rfl
theorem tSyn : ∃ t ms, (Tryd.prog.globals[1]?).map (·.type) = some t ∧ Tryd.prog.underlying t = some (.interface ms) := ⟨44, _, by kernel_rfl, Tryd.underlying44⟩
theorem tRng : ∃ t ms, (Tryd.prog.globals[2]?).map (·.type) = some t ∧ Tryd.prog.underlying t = some (.interface ms) := ⟨44, _, by kernel_rfl, Tryd.underlying44⟩
theorem err_cell {W : World} {n : String} {g : Nat} {u v : Value} {cs : Array Value} (hg : Tryd.prog.globalNamed n = some g) (hv : W.var? Tryd.prog n = some cs) (h : cs.toList = [v]) : W.cell? ⟨g, 0, none⟩ = some v := by
  have := World.var?_cell hg hv 0
  obtain ⟨l⟩ := cs
  simp at h
  subst h
  simpa using this
theorem errs5 {d0 d1 d2 : String × DataW Unit} {W : World} (h : laidMet Tryd.prog (d0 :: d1 :: d2 :: ("strconv.ErrRange", Rows.laid_strconv_ErrRange) :: ("strconv.ErrSyntax", Rows.laid_strconv_ErrSyntax) :: []) W) : ErrV 1 W ∧ ErrV 2 W := by
  obtain ⟨ps, ⟨g0, t0, cs0, f0, p0, q0, hg0, ht0, hv0, hd0, ⟨g1, t1, cs1, f1, p1, q1, hg1, ht1, hv1, hd1, ⟨g2, t2, cs2, f2, p2, q2, hg2, ht2, hv2, hd2, ⟨g3, t3, cs3, f3, p3, q3, hg3, ht3, hv3, hd3, ⟨g4, t4, cs4, f4, p4, q4, hg4, ht4, hv4, hd4, _, _⟩, _⟩, _⟩, _⟩, _⟩, _⟩ := h
  obtain ⟨t, ms, hty, hu⟩ := tSyn
  obtain ⟨u, ns, hry, hr⟩ := tRng
  obtain rfl := Option.some.inj (gSyn.symm.trans hg4)
  obtain rfl := Option.some.inj (gRng.symm.trans hg3)
  obtain rfl := Option.some.inj (hty.symm.trans ht4)
  obtain rfl := Option.some.inj (hry.symm.trans ht3)
  obtain ⟨_, a, b, e4, _⟩ := iface_of_trod hu hd4
  obtain ⟨_, c, d, e3, _⟩ := iface_of_trod hr hd3
  exact ⟨⟨_, err_cell (u := .nilIface) gSyn hv4 e4, .inr ⟨_, _, rfl⟩⟩, ⟨_, err_cell (u := .nilIface) gRng hv3 e3, .inr ⟨_, _, rfl⟩⟩⟩
theorem laidParse {W : World} (h : laidMetH Tryd.prog Rows.fnExactParseIntRow.laid W) : EnvE W := by
  rw [MakeChecks.laidMetH_plain _ _ _ (by kernel_rfl)] at h
  exact ⟨tab3 h, (errs5 h).1, (errs5 h).2⟩
end Go.Proofs.YtajngpnpcefhdaaDoor
