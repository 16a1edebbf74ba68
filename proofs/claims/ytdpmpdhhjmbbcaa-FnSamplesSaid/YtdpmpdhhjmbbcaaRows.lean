/-
  No cell of these rows narrows 'for every input' (looked for: loops, veiled, ifaces, maps, wideKeys, modest, calm, conditions, laid).
  DERIVED. THE GIVEN ROWS OF THIS SEAT. 9 by the template 'for every input the law returns true; each argument reads behind the call as it read before'; 0 by the template 'total and deterministic' (their statements: YtdpmpdhhjmbbcaaTotals.lean).
  GIVEN WITH THE SEED: the statements are not yours to turn. If you find one false, say at which input.
  Laid BY PROGRAM, IN A SANDBOX (cutbox-rows.mjs): the forced cells as the released guide's own fill.sh prints them over the translation 353e6e7de77f59aa… (all of the seat's roots in one cut). By AI agents, Wed Nov 11 2026. No macro, syntax, notation, axiom, sorry.
-/
import Derived.Test.YtdpmpdhhjmbbcaaChecked
import GoSem.Claim
import GoSem.ClaimJoined
import GoSem.ClaimMapViews
import Derived.JoinedTies
import Derived.KernelRfl
namespace Go.Proofs.Ytdpmpdhhjmbbcaa
/- THE CELL 'sum', in the pinned program and in every row, IS THE sha256 OF THE DUMP (.gsa) THAT YtdpmpdhhjmbbcaaProg.lean LOADS. Nothing in Lean hashes anything: it is a label: what it is worth is what the hold of that sum in a sandbox is worth. -/
noncomputable def Try.pinned : Pinned := { name := "ytdpmpdhhjmbbcaa", sum := "353e6e7de77f59aaffbc92e823d499482fc6d7d8985c9c623a8f3b491004474d", checked := Try.checked }
namespace Rows
def none {H : Type} : Left H := { results := [], args := [] }

/-- 'laws.FnExactIsTrace': WHATEVER THE INPUT: true; the input reads as it did. -/
def fnExactIsTraceSpec : ChangeSpec := { name := "fnExactIsTrace", fn := fun _ => fun
  | [d] => { results := [.lit (.bool true)], args := [d] }
  | _ => none }
def fnExactIsTraceRow : OpenClaim := { program := "ytdpmpdhhjmbbcaa", sum := "353e6e7de77f59aaffbc92e823d499482fc6d7d8985c9c623a8f3b491004474d", func := "loop.example/g01017/laws.FnExactIsTrace", spec := "fnExactIsTrace", unfollowed := true, recurses := true, apart := false }
def FnExactIsTraceSaid : Prop := fnExactIsTraceRow.holds Try.pinned (OpenSpec.ofChange fnExactIsTraceSpec)

/-- ITS FALSE NEIGHBOUR: 'it returns false'. Refute it at one input. -/
def fnExactIsTraceWrong : ChangeSpec := { name := "fnExactIsTrace", fn := fun _ => fun
  | [d] => { results := [.lit (.bool false)], args := [d] }
  | _ => none }
def FnExactIsTraceWrongFalsely : Prop := fnExactIsTraceRow.holds Try.pinned (OpenSpec.ofChange fnExactIsTraceWrong)

/-- 'laws.FnExactSampleAt': WHATEVER THE INPUT: true; the input reads as it did. -/
def fnExactSampleAtSpec : ChangeSpec := { name := "fnExactSampleAt", fn := fun _ => fun
  | [d1, d2] => { results := [.lit (.bool true)], args := [d1, d2] }
  | _ => none }
def fnExactSampleAtRow : OpenClaim := { program := "ytdpmpdhhjmbbcaa", sum := "353e6e7de77f59aaffbc92e823d499482fc6d7d8985c9c623a8f3b491004474d", func := "loop.example/g01017/laws.FnExactSampleAt", spec := "fnExactSampleAt", unfollowed := true, recurses := true, apart := false }
def FnExactSampleAtSaid : Prop := fnExactSampleAtRow.holds Try.pinned (OpenSpec.ofChange fnExactSampleAtSpec)

/-- ITS FALSE NEIGHBOUR: 'it returns false'. Refute it at one input. -/
def fnExactSampleAtWrong : ChangeSpec := { name := "fnExactSampleAt", fn := fun _ => fun
  | [d1, d2] => { results := [.lit (.bool false)], args := [d1, d2] }
  | _ => none }
def FnExactSampleAtWrongFalsely : Prop := fnExactSampleAtRow.holds Try.pinned (OpenSpec.ofChange fnExactSampleAtWrong)

/-- 'laws.FnExactCutTrace': WHATEVER THE INPUT: true; the input reads as it did. -/
def fnExactCutTraceSpec : ChangeSpec := { name := "fnExactCutTrace", fn := fun _ => fun
  | [d1, d2, d3] => { results := [.lit (.bool true)], args := [d1, d2, d3] }
  | _ => none }
def fnExactCutTraceRow : OpenClaim := { program := "ytdpmpdhhjmbbcaa", sum := "353e6e7de77f59aaffbc92e823d499482fc6d7d8985c9c623a8f3b491004474d", func := "loop.example/g01017/laws.FnExactCutTrace", spec := "fnExactCutTrace", unfollowed := true, recurses := true, apart := false }
def FnExactCutTraceSaid : Prop := fnExactCutTraceRow.holds Try.pinned (OpenSpec.ofChange fnExactCutTraceSpec)

/-- ITS FALSE NEIGHBOUR: 'it returns false'. Refute it at one input. -/
def fnExactCutTraceWrong : ChangeSpec := { name := "fnExactCutTrace", fn := fun _ => fun
  | [d1, d2, d3] => { results := [.lit (.bool false)], args := [d1, d2, d3] }
  | _ => none }
def FnExactCutTraceWrongFalsely : Prop := fnExactCutTraceRow.holds Try.pinned (OpenSpec.ofChange fnExactCutTraceWrong)

/-- 'laws.FnExactJoinTraces': WHATEVER THE INPUT: true; the input reads as it did. -/
def fnExactJoinTracesSpec : ChangeSpec := { name := "fnExactJoinTraces", fn := fun _ => fun
  | [d1, d2] => { results := [.lit (.bool true)], args := [d1, d2] }
  | _ => none }
def fnExactJoinTracesRow : OpenClaim := { program := "ytdpmpdhhjmbbcaa", sum := "353e6e7de77f59aaffbc92e823d499482fc6d7d8985c9c623a8f3b491004474d", func := "loop.example/g01017/laws.FnExactJoinTraces", spec := "fnExactJoinTraces", unfollowed := true, recurses := true, apart := false }
def FnExactJoinTracesSaid : Prop := fnExactJoinTracesRow.holds Try.pinned (OpenSpec.ofChange fnExactJoinTracesSpec)

/-- ITS FALSE NEIGHBOUR: 'it returns false'. Refute it at one input. -/
def fnExactJoinTracesWrong : ChangeSpec := { name := "fnExactJoinTraces", fn := fun _ => fun
  | [d1, d2] => { results := [.lit (.bool false)], args := [d1, d2] }
  | _ => none }
def FnExactJoinTracesWrongFalsely : Prop := fnExactJoinTracesRow.holds Try.pinned (OpenSpec.ofChange fnExactJoinTracesWrong)

/-- 'laws.FnExactLargestSample': WHATEVER THE INPUT: true; the input reads as it did. -/
def fnExactLargestSampleSpec : ChangeSpec := { name := "fnExactLargestSample", fn := fun _ => fun
  | [d] => { results := [.lit (.bool true)], args := [d] }
  | _ => none }
def fnExactLargestSampleRow : OpenClaim := { program := "ytdpmpdhhjmbbcaa", sum := "353e6e7de77f59aaffbc92e823d499482fc6d7d8985c9c623a8f3b491004474d", func := "loop.example/g01017/laws.FnExactLargestSample", spec := "fnExactLargestSample", unfollowed := true, recurses := true, apart := false }
def FnExactLargestSampleSaid : Prop := fnExactLargestSampleRow.holds Try.pinned (OpenSpec.ofChange fnExactLargestSampleSpec)

/-- ITS FALSE NEIGHBOUR: 'it returns false'. Refute it at one input. -/
def fnExactLargestSampleWrong : ChangeSpec := { name := "fnExactLargestSample", fn := fun _ => fun
  | [d] => { results := [.lit (.bool false)], args := [d] }
  | _ => none }
def FnExactLargestSampleWrongFalsely : Prop := fnExactLargestSampleRow.holds Try.pinned (OpenSpec.ofChange fnExactLargestSampleWrong)

/-- 'laws.FnExactMeanOf': WHATEVER THE INPUT: true; the input reads as it did. -/
def fnExactMeanOfSpec : ChangeSpec := { name := "fnExactMeanOf", fn := fun _ => fun
  | [d] => { results := [.lit (.bool true)], args := [d] }
  | _ => none }
def fnExactMeanOfRow : OpenClaim := { program := "ytdpmpdhhjmbbcaa", sum := "353e6e7de77f59aaffbc92e823d499482fc6d7d8985c9c623a8f3b491004474d", func := "loop.example/g01017/laws.FnExactMeanOf", spec := "fnExactMeanOf", unfollowed := true, recurses := true, apart := false }
def FnExactMeanOfSaid : Prop := fnExactMeanOfRow.holds Try.pinned (OpenSpec.ofChange fnExactMeanOfSpec)

/-- ITS FALSE NEIGHBOUR: 'it returns false'. Refute it at one input. -/
def fnExactMeanOfWrong : ChangeSpec := { name := "fnExactMeanOf", fn := fun _ => fun
  | [d] => { results := [.lit (.bool false)], args := [d] }
  | _ => none }
def FnExactMeanOfWrongFalsely : Prop := fnExactMeanOfRow.holds Try.pinned (OpenSpec.ofChange fnExactMeanOfWrong)

/-- 'laws.FnExactSubtractLevel': WHATEVER THE INPUT: true; the input reads as it did. -/
def fnExactSubtractLevelSpec : ChangeSpec := { name := "fnExactSubtractLevel", fn := fun _ => fun
  | [d1, d2] => { results := [.lit (.bool true)], args := [d1, d2] }
  | _ => none }
def fnExactSubtractLevelRow : OpenClaim := { program := "ytdpmpdhhjmbbcaa", sum := "353e6e7de77f59aaffbc92e823d499482fc6d7d8985c9c623a8f3b491004474d", func := "loop.example/g01017/laws.FnExactSubtractLevel", spec := "fnExactSubtractLevel", unfollowed := true, recurses := true, apart := false }
def FnExactSubtractLevelSaid : Prop := fnExactSubtractLevelRow.holds Try.pinned (OpenSpec.ofChange fnExactSubtractLevelSpec)

/-- ITS FALSE NEIGHBOUR: 'it returns false'. Refute it at one input. -/
def fnExactSubtractLevelWrong : ChangeSpec := { name := "fnExactSubtractLevel", fn := fun _ => fun
  | [d1, d2] => { results := [.lit (.bool false)], args := [d1, d2] }
  | _ => none }
def FnExactSubtractLevelWrongFalsely : Prop := fnExactSubtractLevelRow.holds Try.pinned (OpenSpec.ofChange fnExactSubtractLevelWrong)

/-- 'laws.FnExactCrossings': WHATEVER THE INPUT: true; the input reads as it did. -/
def fnExactCrossingsSpec : ChangeSpec := { name := "fnExactCrossings", fn := fun _ => fun
  | [d] => { results := [.lit (.bool true)], args := [d] }
  | _ => none }
def fnExactCrossingsRow : OpenClaim := { program := "ytdpmpdhhjmbbcaa", sum := "353e6e7de77f59aaffbc92e823d499482fc6d7d8985c9c623a8f3b491004474d", func := "loop.example/g01017/laws.FnExactCrossings", spec := "fnExactCrossings", unfollowed := true, recurses := true, apart := false }
def FnExactCrossingsSaid : Prop := fnExactCrossingsRow.holds Try.pinned (OpenSpec.ofChange fnExactCrossingsSpec)

/-- ITS FALSE NEIGHBOUR: 'it returns false'. Refute it at one input. -/
def fnExactCrossingsWrong : ChangeSpec := { name := "fnExactCrossings", fn := fun _ => fun
  | [d] => { results := [.lit (.bool false)], args := [d] }
  | _ => none }
def FnExactCrossingsWrongFalsely : Prop := fnExactCrossingsRow.holds Try.pinned (OpenSpec.ofChange fnExactCrossingsWrong)

/-- 'laws.FnSamples': WHATEVER THE INPUT: true; the input reads as it did. -/
def fnSamplesSpec : ChangeSpec := { name := "fnSamples", fn := fun _ => fun
  | [d] => { results := [.lit (.bool true)], args := [d] }
  | _ => none }
def fnSamplesRow : OpenClaim := { program := "ytdpmpdhhjmbbcaa", sum := "353e6e7de77f59aaffbc92e823d499482fc6d7d8985c9c623a8f3b491004474d", func := "loop.example/g01017/laws.FnSamples", spec := "fnSamples", unfollowed := true, recurses := true, apart := false }
def FnSamplesSaid : Prop := fnSamplesRow.holds Try.pinned (OpenSpec.ofChange fnSamplesSpec)

/-- ITS FALSE NEIGHBOUR: 'it returns false'. Refute it at one input. -/
def fnSamplesWrong : ChangeSpec := { name := "fnSamples", fn := fun _ => fun
  | [d] => { results := [.lit (.bool false)], args := [d] }
  | _ => none }
def FnSamplesWrongFalsely : Prop := fnSamplesRow.holds Try.pinned (OpenSpec.ofChange fnSamplesWrong)

/- THE SECOND FORM. 'bulk': how many values and letters a reading holds, each counted each time it is reached (what is shared counts as often as it is met; a slice's spare places count too). A statement '..UptoSaid' is the law's where the arguments, and the package variables that the reading takes, are together of bulk at most 1048576: NARROWER than '..Said'. Prove '..Said' where nothing that the law and all that it calls make is longer than what came in: it says more and counts as full. Else prove '..UptoSaid'. A law counts once. -/
mutual
def uptoBulk {H : Type} : DataW H → Nat
  | .lit (.string bytes) => bytes.length + 1
  | .lit _ => 1
  | .nil => 1
  | .ptr d => uptoBulk d + 1
  | .slice elems spare => uptoBulkAll elems + uptoBulkAll spare + 1
  | .agg parts => uptoBulkAll parts + 1
  | .iface _ d => uptoBulk d + 1
  | .map entries => uptoBulkEntries entries + 1
  | .held _ => 1
def uptoBulkAll {H : Type} : List (DataW H) → Nat
  | [] => 0
  | d :: r => uptoBulk d + uptoBulkAll r
def uptoBulkEntries {H : Type} : List (Lit × DataW H) → Nat
  | [] => 0
  | x :: r => uptoBulkEntry x + uptoBulkEntries r
def uptoBulkEntry {H : Type} : Lit × DataW H → Nat
  | (.string bytes, d) => bytes.length + uptoBulk d + 1
  | (_, d) => uptoBulk d + 1
 end
def uptoSmall : (H : Type) → List (DataW H) → Bool := fun _ ds => decide (uptoBulkAll ds ≤ 1048576)
def OpenSpec.upto (s : _root_.Go.ChangeSpec) : _root_.Go.OpenSpec := { _root_.Go.OpenSpec.ofChange s with cond := some uptoSmall }

/-- 'laws.FnExactIsTrace', WHERE WHAT IT READS IS OF BULK AT MOST 1048576: true; the input reads as it did. -/
def fnExactIsTraceUptoRow : OpenClaim := { program := "ytdpmpdhhjmbbcaa", sum := "353e6e7de77f59aaffbc92e823d499482fc6d7d8985c9c623a8f3b491004474d", func := "loop.example/g01017/laws.FnExactIsTrace", spec := "fnExactIsTrace", unfollowed := true, recurses := true, apart := false, narrowed := true }
def FnExactIsTraceUptoSaid : Prop := fnExactIsTraceUptoRow.holds Try.pinned (OpenSpec.upto fnExactIsTraceSpec)

/-- 'laws.FnExactSampleAt', WHERE WHAT IT READS IS OF BULK AT MOST 1048576: true; the input reads as it did. -/
def fnExactSampleAtUptoRow : OpenClaim := { program := "ytdpmpdhhjmbbcaa", sum := "353e6e7de77f59aaffbc92e823d499482fc6d7d8985c9c623a8f3b491004474d", func := "loop.example/g01017/laws.FnExactSampleAt", spec := "fnExactSampleAt", unfollowed := true, recurses := true, apart := false, narrowed := true }
def FnExactSampleAtUptoSaid : Prop := fnExactSampleAtUptoRow.holds Try.pinned (OpenSpec.upto fnExactSampleAtSpec)

/-- 'laws.FnExactCutTrace', WHERE WHAT IT READS IS OF BULK AT MOST 1048576: true; the input reads as it did. -/
def fnExactCutTraceUptoRow : OpenClaim := { program := "ytdpmpdhhjmbbcaa", sum := "353e6e7de77f59aaffbc92e823d499482fc6d7d8985c9c623a8f3b491004474d", func := "loop.example/g01017/laws.FnExactCutTrace", spec := "fnExactCutTrace", unfollowed := true, recurses := true, apart := false, narrowed := true }
def FnExactCutTraceUptoSaid : Prop := fnExactCutTraceUptoRow.holds Try.pinned (OpenSpec.upto fnExactCutTraceSpec)

/-- 'laws.FnExactJoinTraces', WHERE WHAT IT READS IS OF BULK AT MOST 1048576: true; the input reads as it did. -/
def fnExactJoinTracesUptoRow : OpenClaim := { program := "ytdpmpdhhjmbbcaa", sum := "353e6e7de77f59aaffbc92e823d499482fc6d7d8985c9c623a8f3b491004474d", func := "loop.example/g01017/laws.FnExactJoinTraces", spec := "fnExactJoinTraces", unfollowed := true, recurses := true, apart := false, narrowed := true }
def FnExactJoinTracesUptoSaid : Prop := fnExactJoinTracesUptoRow.holds Try.pinned (OpenSpec.upto fnExactJoinTracesSpec)

/-- 'laws.FnExactLargestSample', WHERE WHAT IT READS IS OF BULK AT MOST 1048576: true; the input reads as it did. -/
def fnExactLargestSampleUptoRow : OpenClaim := { program := "ytdpmpdhhjmbbcaa", sum := "353e6e7de77f59aaffbc92e823d499482fc6d7d8985c9c623a8f3b491004474d", func := "loop.example/g01017/laws.FnExactLargestSample", spec := "fnExactLargestSample", unfollowed := true, recurses := true, apart := false, narrowed := true }
def FnExactLargestSampleUptoSaid : Prop := fnExactLargestSampleUptoRow.holds Try.pinned (OpenSpec.upto fnExactLargestSampleSpec)

/-- 'laws.FnExactMeanOf', WHERE WHAT IT READS IS OF BULK AT MOST 1048576: true; the input reads as it did. -/
def fnExactMeanOfUptoRow : OpenClaim := { program := "ytdpmpdhhjmbbcaa", sum := "353e6e7de77f59aaffbc92e823d499482fc6d7d8985c9c623a8f3b491004474d", func := "loop.example/g01017/laws.FnExactMeanOf", spec := "fnExactMeanOf", unfollowed := true, recurses := true, apart := false, narrowed := true }
def FnExactMeanOfUptoSaid : Prop := fnExactMeanOfUptoRow.holds Try.pinned (OpenSpec.upto fnExactMeanOfSpec)

/-- 'laws.FnExactSubtractLevel', WHERE WHAT IT READS IS OF BULK AT MOST 1048576: true; the input reads as it did. -/
def fnExactSubtractLevelUptoRow : OpenClaim := { program := "ytdpmpdhhjmbbcaa", sum := "353e6e7de77f59aaffbc92e823d499482fc6d7d8985c9c623a8f3b491004474d", func := "loop.example/g01017/laws.FnExactSubtractLevel", spec := "fnExactSubtractLevel", unfollowed := true, recurses := true, apart := false, narrowed := true }
def FnExactSubtractLevelUptoSaid : Prop := fnExactSubtractLevelUptoRow.holds Try.pinned (OpenSpec.upto fnExactSubtractLevelSpec)

/-- 'laws.FnExactCrossings', WHERE WHAT IT READS IS OF BULK AT MOST 1048576: true; the input reads as it did. -/
def fnExactCrossingsUptoRow : OpenClaim := { program := "ytdpmpdhhjmbbcaa", sum := "353e6e7de77f59aaffbc92e823d499482fc6d7d8985c9c623a8f3b491004474d", func := "loop.example/g01017/laws.FnExactCrossings", spec := "fnExactCrossings", unfollowed := true, recurses := true, apart := false, narrowed := true }
def FnExactCrossingsUptoSaid : Prop := fnExactCrossingsUptoRow.holds Try.pinned (OpenSpec.upto fnExactCrossingsSpec)

/-- 'laws.FnSamples', WHERE WHAT IT READS IS OF BULK AT MOST 1048576: true; the input reads as it did. -/
def fnSamplesUptoRow : OpenClaim := { program := "ytdpmpdhhjmbbcaa", sum := "353e6e7de77f59aaffbc92e823d499482fc6d7d8985c9c623a8f3b491004474d", func := "loop.example/g01017/laws.FnSamples", spec := "fnSamples", unfollowed := true, recurses := true, apart := false, narrowed := true }
def FnSamplesUptoSaid : Prop := fnSamplesUptoRow.holds Try.pinned (OpenSpec.upto fnSamplesSpec)

end Rows
end Go.Proofs.Ytdpmpdhhjmbbcaa
