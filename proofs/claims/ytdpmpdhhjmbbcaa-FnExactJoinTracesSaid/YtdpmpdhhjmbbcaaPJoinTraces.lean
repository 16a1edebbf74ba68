/- The law FnExactJoinTraces holds: for every input of its parameter types it returns true, and its arguments read behind the call as before it. Conditions: none beyond the row's own. -/
import Derived.Test.YtdpmpdhhjmbbcaaRows
import Derived.Test.YtdpmpdhhjmbbcaaOpenT
import Derived.Test.YtdpmpdhhjmbbcaaLawJoinTraces
import Derived.WalkKit
import Derived.ProofKit
import Derived.OpenShut
import Derived.ShutString
import Derived.ChangeOld
import Derived.Below
import Derived.KernelRfl
import Derived.Lib.SmallJoins
namespace Go.Proofs.Ytdpmpdhhjmbbcaa.fnExactJoinTraces
open Go.ChangeShapes Go.WideShapes Go.ChangeAt Go.RowKit
open Go.ChangeMaps (open_string shut_string)
set_option linter.unusedVariables false

theorem own : ownKnob Try.prog.godebug = none := by kernel_rfl
theorem laidOut : laidOutB Try.prog = true := by kernel_rfl

set_option maxRecDepth 100000 in
theorem lifted (os : Os) (started : os.Started) (H : Type) (enc : TypeId × Value → H) :
    ReturnsInHanded {} Try.checked os 6 .any (Rows.fnExactJoinTracesSpec.pre6 enc Try.prog Try.f6 Rows.fnExactJoinTracesRow.domain false) (Rows.fnExactJoinTracesSpec.post enc Try.prog Try.f6 false true false false) := by
  refine returnsInHanded_of_change (C := Try.checked) own started (by kernel_rfl) Try.func6
    (ChangeSpec.witness6 (enc := enc) (C := Try.checked) false ⟨#[], #[.agg #[.int .i64 0, .int .i64 0, .slice none 0 0], .agg #[.int .i64 0, .int .i64 0, .slice none 0 0]], []⟩ 8 (by kernel_rfl) (by kernel_rfl) (by kernel_rfl) (by kernel_rfl)) ?_
  intro W base args ds gs before hval0 hW hcnd _
  have hval : ∀ (j : Nat) t v, Try.f6.params[j]? = some t → args[j]? = some v → Value.okWide Try.prog W .any base t v := hval0
  have hW' := hW
  obtain ⟨p, q, hA0, hV, rfl, hfz, hnd⟩ := hW
  have hA : DataW.TrodAll enc Try.prog W 0 (fun _ => true) true Try.f6.params.toList args.toList ds p := hA0
  rw [Try.params6] at hA hval
  obtain ⟨v0, vs0, d0, ds0, p0, q0, hargs, rfl, rfl, h0, r0⟩ := trodAll_cons hA
  obtain ⟨v1, vs1, d1, ds1, p1, q1, rfl, rfl, rfl, h1, r1⟩ := trodAll_cons r0
  obtain ⟨rfl, rfl, rfl⟩ := trodAll_nil r1
  obtain rfl : args = #[v0, v1] := by cases args; simp_all
  obtain ⟨rfl, rfl⟩ := trodVars_none hV
  have k0 := h0
  have lt0 : ∀ x ∈ p0, x.block < W.heap.size := by obtain ⟨m, hm⟩ := k0; exact DataW.trod_lt m _ _ _ hm
  obtain ⟨u0_0, u1_0, u2_0, y0_0, y1_0, y2_0, m_0, rfl, rfl, rfl, g0_0, g1_0, g2_0⟩ := Joins.open_agg3 Try.underlying24 (by kernel_rfl) (by kernel_rfl) (hval 0 24 v0 rfl rfl) h0
  obtain ⟨a0, e0_0, rfl, wa0⟩ := DataW.trod_int Try.underlying3 g0_0
  obtain ⟨b0, e1_0, rfl, wb0⟩ := DataW.trod_int Try.underlying3 g1_0
  obtain ⟨A0, len0, cap0, z0, rfl, w0, q0, _⟩ := open_RI1 g2_0
  simp only [List.cons.injEq, and_true] at e0_0 e1_0
  subst e0_0 e1_0
  have k1 := h1
  have lt1 : ∀ x ∈ p1, x.block < W.heap.size := by obtain ⟨m, hm⟩ := k1; exact DataW.trod_lt m _ _ _ hm
  obtain ⟨u0_1, u1_1, u2_1, y0_1, y1_1, y2_1, m_1, rfl, rfl, rfl, g0_1, g1_1, g2_1⟩ := Joins.open_agg3 Try.underlying24 (by kernel_rfl) (by kernel_rfl) (hval 1 24 v1 rfl rfl) h1
  obtain ⟨a1, e0_1, rfl, wa1⟩ := DataW.trod_int Try.underlying3 g0_1
  obtain ⟨b1, e1_1, rfl, wb1⟩ := DataW.trod_int Try.underlying3 g1_1
  obtain ⟨A1, len1, cap1, z1, rfl, w1, q1, _⟩ := open_RI1 g2_1
  simp only [List.cons.injEq, and_true] at e0_1 e1_1
  subst e0_1 e1_1
  clear hA0 hval0
  refine (law_JoinTraces a0 b0 A0 len0 cap0 z0 a1 b1 A1 len1 cap1 z1 W w0 q0 (wf_bounds wa0) (wf_bounds wb0) w1 q1 (wf_bounds wa1) (wf_bounds wb1)).mono fun e W' ⟨he, bel⟩ => ?_
  subst he
  exact ⟨_, rfl, _, _, _, [], _, [], hW', trodAll_mk1 (shut_bool Try.underlying4 _), (trodAll_cons_mk (Below.trod laidOut (by kernel_rfl) (of_decide_eq_true (by kernel_rfl)) k0 bel lt0) (trodAll_cons_mk (Below.trod laidOut (by kernel_rfl) (of_decide_eq_true (by kernel_rfl)) k1 bel lt1) trodAll_mk0)), rfl, bel.frame _, fun h => by cases h⟩

theorem over : Rows.fnExactJoinTracesRow.holds Try.pinned (OpenSpec.ofChange Rows.fnExactJoinTracesSpec) :=
  OpenClaim.holds_of_wide 6 Try.f6 rfl rfl rfl rfl rfl rfl rfl ⟨rfl, rfl, rfl, rfl, rfl⟩ rfl rfl rfl rfl rfl (by kernel_rfl) Try.func6 (by kernel_rfl)
    (of_decide_eq_true (by kernel_rfl)) (by unfold Func.isWrapper; first | (rw [if_pos (by decide +kernel)]; kernel_rfl) | (rw [if_neg (by decide +kernel)]; exact ⟨rfl, rfl⟩))
    (fun os started H enc _ => lifted os started H enc)

/-- The statement. -/
theorem proved : Rows.FnExactJoinTracesSaid := over
end Go.Proofs.Ytdpmpdhhjmbbcaa.fnExactJoinTraces
