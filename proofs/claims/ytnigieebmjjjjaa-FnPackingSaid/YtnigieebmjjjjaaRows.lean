/-
  No cell of these rows narrows 'for every input' (looked for: loops, veiled, ifaces, maps, wideKeys, modest, calm, conditions, laid).
  DERIVED. THE GIVEN ROWS OF THIS SEAT. 11 by the template 'for every input the law returns true; each argument reads behind the call as it read before'; 0 by the template 'total and deterministic' (their statements: YtnigieebmjjjjaaTotals.lean).
  GIVEN WITH THE SEED: the statements are not yours to turn. If you find one false, say at which input.
  Laid BY PROGRAM, IN A SANDBOX (cutbox-rows.mjs): the forced cells as the released guide's own fill.sh prints them over the translation 71b67c4f53298cc1… (all of the seat's roots in one cut). By AI agents, Wed Nov 11 2026. No macro, syntax, notation, axiom, sorry.
-/
import Derived.Test.YtnigieebmjjjjaaChecked
import GoSem.Claim
import GoSem.ClaimJoined
import GoSem.ClaimMapViews
import Derived.JoinedTies
import Derived.KernelRfl
namespace Go.Proofs.Ytnigieebmjjjjaa
/- THE CELL 'sum', in the pinned program and in every row, IS THE sha256 OF THE DUMP (.gsa) THAT YtnigieebmjjjjaaProg.lean LOADS. Nothing in Lean hashes anything: it is a label: what it is worth is what the hold of that sum in a sandbox is worth. -/
noncomputable def Try.pinned : Pinned := { name := "ytnigieebmjjjjaa", sum := "71b67c4f53298cc17606a725ac3f58311e02870f0db82b3d7efe928db1048cd4", checked := Try.checked }
namespace Rows
def none {H : Type} : Left H := { results := [], args := [] }

/-- 'laws.FnExactDifferences': WHATEVER THE INPUT: true; the input reads as it did. -/
def fnExactDifferencesSpec : ChangeSpec := { name := "fnExactDifferences", fn := fun _ => fun
  | [d] => { results := [.lit (.bool true)], args := [d] }
  | _ => none }
def fnExactDifferencesRow : OpenClaim := { program := "ytnigieebmjjjjaa", sum := "71b67c4f53298cc17606a725ac3f58311e02870f0db82b3d7efe928db1048cd4", func := "loop.example/g01017/laws.FnExactDifferences", spec := "fnExactDifferences", unfollowed := true, recurses := true, apart := false }
def FnExactDifferencesSaid : Prop := fnExactDifferencesRow.holds Try.pinned (OpenSpec.ofChange fnExactDifferencesSpec)

/-- ITS FALSE NEIGHBOUR: 'it returns false'. Refute it at one input. -/
def fnExactDifferencesWrong : ChangeSpec := { name := "fnExactDifferences", fn := fun _ => fun
  | [d] => { results := [.lit (.bool false)], args := [d] }
  | _ => none }
def FnExactDifferencesWrongFalsely : Prop := fnExactDifferencesRow.holds Try.pinned (OpenSpec.ofChange fnExactDifferencesWrong)

/-- 'laws.FnExactFromDifferences': WHATEVER THE INPUT: true; the input reads as it did. -/
def fnExactFromDifferencesSpec : ChangeSpec := { name := "fnExactFromDifferences", fn := fun _ => fun
  | [d] => { results := [.lit (.bool true)], args := [d] }
  | _ => none }
def fnExactFromDifferencesRow : OpenClaim := { program := "ytnigieebmjjjjaa", sum := "71b67c4f53298cc17606a725ac3f58311e02870f0db82b3d7efe928db1048cd4", func := "loop.example/g01017/laws.FnExactFromDifferences", spec := "fnExactFromDifferences", apart := false }
def FnExactFromDifferencesSaid : Prop := fnExactFromDifferencesRow.holds Try.pinned (OpenSpec.ofChange fnExactFromDifferencesSpec)

/-- ITS FALSE NEIGHBOUR: 'it returns false'. Refute it at one input. -/
def fnExactFromDifferencesWrong : ChangeSpec := { name := "fnExactFromDifferences", fn := fun _ => fun
  | [d] => { results := [.lit (.bool false)], args := [d] }
  | _ => none }
def FnExactFromDifferencesWrongFalsely : Prop := fnExactFromDifferencesRow.holds Try.pinned (OpenSpec.ofChange fnExactFromDifferencesWrong)

/-- 'laws.FnExactFoldedOf': WHATEVER THE INPUT: true; the input reads as it did. -/
def fnExactFoldedOfSpec : ChangeSpec := { name := "fnExactFoldedOf", fn := fun _ => fun
  | [d] => { results := [.lit (.bool true)], args := [d] }
  | _ => none }
def fnExactFoldedOfRow : OpenClaim := { program := "ytnigieebmjjjjaa", sum := "71b67c4f53298cc17606a725ac3f58311e02870f0db82b3d7efe928db1048cd4", func := "loop.example/g01017/laws.FnExactFoldedOf", spec := "fnExactFoldedOf", apart := false }
def FnExactFoldedOfSaid : Prop := fnExactFoldedOfRow.holds Try.pinned (OpenSpec.ofChange fnExactFoldedOfSpec)

/-- ITS FALSE NEIGHBOUR: 'it returns false'. Refute it at one input. -/
def fnExactFoldedOfWrong : ChangeSpec := { name := "fnExactFoldedOf", fn := fun _ => fun
  | [d] => { results := [.lit (.bool false)], args := [d] }
  | _ => none }
def FnExactFoldedOfWrongFalsely : Prop := fnExactFoldedOfRow.holds Try.pinned (OpenSpec.ofChange fnExactFoldedOfWrong)

/-- 'laws.FnExactPackedWidth': WHATEVER THE INPUT: true; the input reads as it did. -/
def fnExactPackedWidthSpec : ChangeSpec := { name := "fnExactPackedWidth", fn := fun _ => fun
  | [d] => { results := [.lit (.bool true)], args := [d] }
  | _ => none }
def fnExactPackedWidthRow : OpenClaim := { program := "ytnigieebmjjjjaa", sum := "71b67c4f53298cc17606a725ac3f58311e02870f0db82b3d7efe928db1048cd4", func := "loop.example/g01017/laws.FnExactPackedWidth", spec := "fnExactPackedWidth", apart := false }
def FnExactPackedWidthSaid : Prop := fnExactPackedWidthRow.holds Try.pinned (OpenSpec.ofChange fnExactPackedWidthSpec)

/-- ITS FALSE NEIGHBOUR: 'it returns false'. Refute it at one input. -/
def fnExactPackedWidthWrong : ChangeSpec := { name := "fnExactPackedWidth", fn := fun _ => fun
  | [d] => { results := [.lit (.bool false)], args := [d] }
  | _ => none }
def FnExactPackedWidthWrongFalsely : Prop := fnExactPackedWidthRow.holds Try.pinned (OpenSpec.ofChange fnExactPackedWidthWrong)

/-- 'laws.FnExactPackSamples': WHATEVER THE INPUT: true; the input reads as it did. -/
def fnExactPackSamplesSpec : ChangeSpec := { name := "fnExactPackSamples", fn := fun _ => fun
  | [d] => { results := [.lit (.bool true)], args := [d] }
  | _ => none }
def fnExactPackSamplesRow : OpenClaim := { program := "ytnigieebmjjjjaa", sum := "71b67c4f53298cc17606a725ac3f58311e02870f0db82b3d7efe928db1048cd4", func := "loop.example/g01017/laws.FnExactPackSamples", spec := "fnExactPackSamples", unfollowed := true, recurses := true, apart := false }
def FnExactPackSamplesSaid : Prop := fnExactPackSamplesRow.holds Try.pinned (OpenSpec.ofChange fnExactPackSamplesSpec)

/-- ITS FALSE NEIGHBOUR: 'it returns false'. Refute it at one input. -/
def fnExactPackSamplesWrong : ChangeSpec := { name := "fnExactPackSamples", fn := fun _ => fun
  | [d] => { results := [.lit (.bool false)], args := [d] }
  | _ => none }
def FnExactPackSamplesWrongFalsely : Prop := fnExactPackSamplesRow.holds Try.pinned (OpenSpec.ofChange fnExactPackSamplesWrong)

/-- 'laws.FnExactUnpackSamples': WHATEVER THE INPUT: true; the input reads as it did. -/
def fnExactUnpackSamplesSpec : ChangeSpec := { name := "fnExactUnpackSamples", fn := fun _ => fun
  | [d] => { results := [.lit (.bool true)], args := [d] }
  | _ => none }
def fnExactUnpackSamplesRow : OpenClaim := { program := "ytnigieebmjjjjaa", sum := "71b67c4f53298cc17606a725ac3f58311e02870f0db82b3d7efe928db1048cd4", func := "loop.example/g01017/laws.FnExactUnpackSamples", spec := "fnExactUnpackSamples", unfollowed := true, recurses := true, apart := false }
def FnExactUnpackSamplesSaid : Prop := fnExactUnpackSamplesRow.holds Try.pinned (OpenSpec.ofChange fnExactUnpackSamplesSpec)

/-- ITS FALSE NEIGHBOUR: 'it returns false'. Refute it at one input. -/
def fnExactUnpackSamplesWrong : ChangeSpec := { name := "fnExactUnpackSamples", fn := fun _ => fun
  | [d] => { results := [.lit (.bool false)], args := [d] }
  | _ => none }
def FnExactUnpackSamplesWrongFalsely : Prop := fnExactUnpackSamplesRow.holds Try.pinned (OpenSpec.ofChange fnExactUnpackSamplesWrong)

/-- 'laws.FnExactTornAt': WHATEVER THE INPUT: true; the input reads as it did. -/
def fnExactTornAtSpec : ChangeSpec := { name := "fnExactTornAt", fn := fun _ => fun
  | [d] => { results := [.lit (.bool true)], args := [d] }
  | _ => none }
def fnExactTornAtRow : OpenClaim := { program := "ytnigieebmjjjjaa", sum := "71b67c4f53298cc17606a725ac3f58311e02870f0db82b3d7efe928db1048cd4", func := "loop.example/g01017/laws.FnExactTornAt", spec := "fnExactTornAt", unfollowed := true, recurses := true, apart := false }
def FnExactTornAtSaid : Prop := fnExactTornAtRow.holds Try.pinned (OpenSpec.ofChange fnExactTornAtSpec)

/-- ITS FALSE NEIGHBOUR: 'it returns false'. Refute it at one input. -/
def fnExactTornAtWrong : ChangeSpec := { name := "fnExactTornAt", fn := fun _ => fun
  | [d] => { results := [.lit (.bool false)], args := [d] }
  | _ => none }
def FnExactTornAtWrongFalsely : Prop := fnExactTornAtRow.holds Try.pinned (OpenSpec.ofChange fnExactTornAtWrong)

/-- 'laws.FnExactReadableSamples': WHATEVER THE INPUT: true; the input reads as it did. -/
def fnExactReadableSamplesSpec : ChangeSpec := { name := "fnExactReadableSamples", fn := fun _ => fun
  | [d] => { results := [.lit (.bool true)], args := [d] }
  | _ => none }
def fnExactReadableSamplesRow : OpenClaim := { program := "ytnigieebmjjjjaa", sum := "71b67c4f53298cc17606a725ac3f58311e02870f0db82b3d7efe928db1048cd4", func := "loop.example/g01017/laws.FnExactReadableSamples", spec := "fnExactReadableSamples", unfollowed := true, recurses := true, apart := false }
def FnExactReadableSamplesSaid : Prop := fnExactReadableSamplesRow.holds Try.pinned (OpenSpec.ofChange fnExactReadableSamplesSpec)

/-- ITS FALSE NEIGHBOUR: 'it returns false'. Refute it at one input. -/
def fnExactReadableSamplesWrong : ChangeSpec := { name := "fnExactReadableSamples", fn := fun _ => fun
  | [d] => { results := [.lit (.bool false)], args := [d] }
  | _ => none }
def FnExactReadableSamplesWrongFalsely : Prop := fnExactReadableSamplesRow.holds Try.pinned (OpenSpec.ofChange fnExactReadableSamplesWrong)

/-- 'laws.FnExactWidthCounts': WHATEVER THE INPUT: true; the input reads as it did. -/
def fnExactWidthCountsSpec : ChangeSpec := { name := "fnExactWidthCounts", fn := fun _ => fun
  | [d] => { results := [.lit (.bool true)], args := [d] }
  | _ => none }
def fnExactWidthCountsRow : OpenClaim := { program := "ytnigieebmjjjjaa", sum := "71b67c4f53298cc17606a725ac3f58311e02870f0db82b3d7efe928db1048cd4", func := "loop.example/g01017/laws.FnExactWidthCounts", spec := "fnExactWidthCounts", unfollowed := true, recurses := true, apart := false }
def FnExactWidthCountsSaid : Prop := fnExactWidthCountsRow.holds Try.pinned (OpenSpec.ofChange fnExactWidthCountsSpec)

/-- ITS FALSE NEIGHBOUR: 'it returns false'. Refute it at one input. -/
def fnExactWidthCountsWrong : ChangeSpec := { name := "fnExactWidthCounts", fn := fun _ => fun
  | [d] => { results := [.lit (.bool false)], args := [d] }
  | _ => none }
def FnExactWidthCountsWrongFalsely : Prop := fnExactWidthCountsRow.holds Try.pinned (OpenSpec.ofChange fnExactWidthCountsWrong)

/-- 'laws.FnPacking': WHATEVER THE INPUT: true; the input reads as it did. -/
def fnPackingSpec : ChangeSpec := { name := "fnPacking", fn := fun _ => fun
  | [d] => { results := [.lit (.bool true)], args := [d] }
  | _ => none }
def fnPackingRow : OpenClaim := { program := "ytnigieebmjjjjaa", sum := "71b67c4f53298cc17606a725ac3f58311e02870f0db82b3d7efe928db1048cd4", func := "loop.example/g01017/laws.FnPacking", spec := "fnPacking", unfollowed := true, recurses := true, apart := false }
def FnPackingSaid : Prop := fnPackingRow.holds Try.pinned (OpenSpec.ofChange fnPackingSpec)

/-- ITS FALSE NEIGHBOUR: 'it returns false'. Refute it at one input. -/
def fnPackingWrong : ChangeSpec := { name := "fnPacking", fn := fun _ => fun
  | [d] => { results := [.lit (.bool false)], args := [d] }
  | _ => none }
def FnPackingWrongFalsely : Prop := fnPackingRow.holds Try.pinned (OpenSpec.ofChange fnPackingWrong)

/-- 'laws.FnDifferences': WHATEVER THE INPUT: true; the input reads as it did. -/
def fnDifferencesSpec : ChangeSpec := { name := "fnDifferences", fn := fun _ => fun
  | [d] => { results := [.lit (.bool true)], args := [d] }
  | _ => none }
def fnDifferencesRow : OpenClaim := { program := "ytnigieebmjjjjaa", sum := "71b67c4f53298cc17606a725ac3f58311e02870f0db82b3d7efe928db1048cd4", func := "loop.example/g01017/laws.FnDifferences", spec := "fnDifferences", unfollowed := true, recurses := true, apart := false }
def FnDifferencesSaid : Prop := fnDifferencesRow.holds Try.pinned (OpenSpec.ofChange fnDifferencesSpec)

/-- ITS FALSE NEIGHBOUR: 'it returns false'. Refute it at one input. -/
def fnDifferencesWrong : ChangeSpec := { name := "fnDifferences", fn := fun _ => fun
  | [d] => { results := [.lit (.bool false)], args := [d] }
  | _ => none }
def FnDifferencesWrongFalsely : Prop := fnDifferencesRow.holds Try.pinned (OpenSpec.ofChange fnDifferencesWrong)

/- THE SECOND FORM. 'bulk': how many values and letters a reading holds, each counted each time it is reached (what is shared counts as often as it is met; a slice's spare places count too). A statement '..UptoSaid' is the law's where the arguments, and the package variables that the reading takes, are together of bulk at most 1048576: NARROWER than '..Said'. Prove '..Said' where nothing that the law and all that it calls make is longer than what came in: it says more and counts as full. Else prove '..UptoSaid'. A law counts once. -/
mutual
def uptoBulk {H : Type} : DataW H → Nat
  | .lit (.string bytes) => bytes.length + 1
  | .lit _ => 1
  | .nil => 1
  | .ptr d => uptoBulk d + 1
  | .slice elems spare => uptoBulkAll elems + uptoBulkAll spare + 1
  | .agg parts => uptoBulkAll parts + 1
  | .iface _ d => uptoBulk d + 1
  | .map entries => uptoBulkEntries entries + 1
  | .held _ => 1
def uptoBulkAll {H : Type} : List (DataW H) → Nat
  | [] => 0
  | d :: r => uptoBulk d + uptoBulkAll r
def uptoBulkEntries {H : Type} : List (Lit × DataW H) → Nat
  | [] => 0
  | x :: r => uptoBulkEntry x + uptoBulkEntries r
def uptoBulkEntry {H : Type} : Lit × DataW H → Nat
  | (.string bytes, d) => bytes.length + uptoBulk d + 1
  | (_, d) => uptoBulk d + 1
 end
def uptoSmall : (H : Type) → List (DataW H) → Bool := fun _ ds => decide (uptoBulkAll ds ≤ 1048576)
def OpenSpec.upto (s : _root_.Go.ChangeSpec) : _root_.Go.OpenSpec := { _root_.Go.OpenSpec.ofChange s with cond := some uptoSmall }

/-- 'laws.FnExactDifferences', WHERE WHAT IT READS IS OF BULK AT MOST 1048576: true; the input reads as it did. -/
def fnExactDifferencesUptoRow : OpenClaim := { program := "ytnigieebmjjjjaa", sum := "71b67c4f53298cc17606a725ac3f58311e02870f0db82b3d7efe928db1048cd4", func := "loop.example/g01017/laws.FnExactDifferences", spec := "fnExactDifferences", unfollowed := true, recurses := true, apart := false, narrowed := true }
def FnExactDifferencesUptoSaid : Prop := fnExactDifferencesUptoRow.holds Try.pinned (OpenSpec.upto fnExactDifferencesSpec)

/-- 'laws.FnExactFromDifferences', WHERE WHAT IT READS IS OF BULK AT MOST 1048576: true; the input reads as it did. -/
def fnExactFromDifferencesUptoRow : OpenClaim := { program := "ytnigieebmjjjjaa", sum := "71b67c4f53298cc17606a725ac3f58311e02870f0db82b3d7efe928db1048cd4", func := "loop.example/g01017/laws.FnExactFromDifferences", spec := "fnExactFromDifferences", apart := false, narrowed := true }
def FnExactFromDifferencesUptoSaid : Prop := fnExactFromDifferencesUptoRow.holds Try.pinned (OpenSpec.upto fnExactFromDifferencesSpec)

/-- 'laws.FnExactFoldedOf', WHERE WHAT IT READS IS OF BULK AT MOST 1048576: true; the input reads as it did. -/
def fnExactFoldedOfUptoRow : OpenClaim := { program := "ytnigieebmjjjjaa", sum := "71b67c4f53298cc17606a725ac3f58311e02870f0db82b3d7efe928db1048cd4", func := "loop.example/g01017/laws.FnExactFoldedOf", spec := "fnExactFoldedOf", apart := false, narrowed := true }
def FnExactFoldedOfUptoSaid : Prop := fnExactFoldedOfUptoRow.holds Try.pinned (OpenSpec.upto fnExactFoldedOfSpec)

/-- 'laws.FnExactPackedWidth', WHERE WHAT IT READS IS OF BULK AT MOST 1048576: true; the input reads as it did. -/
def fnExactPackedWidthUptoRow : OpenClaim := { program := "ytnigieebmjjjjaa", sum := "71b67c4f53298cc17606a725ac3f58311e02870f0db82b3d7efe928db1048cd4", func := "loop.example/g01017/laws.FnExactPackedWidth", spec := "fnExactPackedWidth", apart := false, narrowed := true }
def FnExactPackedWidthUptoSaid : Prop := fnExactPackedWidthUptoRow.holds Try.pinned (OpenSpec.upto fnExactPackedWidthSpec)

/-- 'laws.FnExactPackSamples', WHERE WHAT IT READS IS OF BULK AT MOST 1048576: true; the input reads as it did. -/
def fnExactPackSamplesUptoRow : OpenClaim := { program := "ytnigieebmjjjjaa", sum := "71b67c4f53298cc17606a725ac3f58311e02870f0db82b3d7efe928db1048cd4", func := "loop.example/g01017/laws.FnExactPackSamples", spec := "fnExactPackSamples", unfollowed := true, recurses := true, apart := false, narrowed := true }
def FnExactPackSamplesUptoSaid : Prop := fnExactPackSamplesUptoRow.holds Try.pinned (OpenSpec.upto fnExactPackSamplesSpec)

/-- 'laws.FnExactUnpackSamples', WHERE WHAT IT READS IS OF BULK AT MOST 1048576: true; the input reads as it did. -/
def fnExactUnpackSamplesUptoRow : OpenClaim := { program := "ytnigieebmjjjjaa", sum := "71b67c4f53298cc17606a725ac3f58311e02870f0db82b3d7efe928db1048cd4", func := "loop.example/g01017/laws.FnExactUnpackSamples", spec := "fnExactUnpackSamples", unfollowed := true, recurses := true, apart := false, narrowed := true }
def FnExactUnpackSamplesUptoSaid : Prop := fnExactUnpackSamplesUptoRow.holds Try.pinned (OpenSpec.upto fnExactUnpackSamplesSpec)

/-- 'laws.FnExactTornAt', WHERE WHAT IT READS IS OF BULK AT MOST 1048576: true; the input reads as it did. -/
def fnExactTornAtUptoRow : OpenClaim := { program := "ytnigieebmjjjjaa", sum := "71b67c4f53298cc17606a725ac3f58311e02870f0db82b3d7efe928db1048cd4", func := "loop.example/g01017/laws.FnExactTornAt", spec := "fnExactTornAt", unfollowed := true, recurses := true, apart := false, narrowed := true }
def FnExactTornAtUptoSaid : Prop := fnExactTornAtUptoRow.holds Try.pinned (OpenSpec.upto fnExactTornAtSpec)

/-- 'laws.FnExactReadableSamples', WHERE WHAT IT READS IS OF BULK AT MOST 1048576: true; the input reads as it did. -/
def fnExactReadableSamplesUptoRow : OpenClaim := { program := "ytnigieebmjjjjaa", sum := "71b67c4f53298cc17606a725ac3f58311e02870f0db82b3d7efe928db1048cd4", func := "loop.example/g01017/laws.FnExactReadableSamples", spec := "fnExactReadableSamples", unfollowed := true, recurses := true, apart := false, narrowed := true }
def FnExactReadableSamplesUptoSaid : Prop := fnExactReadableSamplesUptoRow.holds Try.pinned (OpenSpec.upto fnExactReadableSamplesSpec)

/-- 'laws.FnExactWidthCounts', WHERE WHAT IT READS IS OF BULK AT MOST 1048576: true; the input reads as it did. -/
def fnExactWidthCountsUptoRow : OpenClaim := { program := "ytnigieebmjjjjaa", sum := "71b67c4f53298cc17606a725ac3f58311e02870f0db82b3d7efe928db1048cd4", func := "loop.example/g01017/laws.FnExactWidthCounts", spec := "fnExactWidthCounts", unfollowed := true, recurses := true, apart := false, narrowed := true }
def FnExactWidthCountsUptoSaid : Prop := fnExactWidthCountsUptoRow.holds Try.pinned (OpenSpec.upto fnExactWidthCountsSpec)

/-- 'laws.FnPacking', WHERE WHAT IT READS IS OF BULK AT MOST 1048576: true; the input reads as it did. -/
def fnPackingUptoRow : OpenClaim := { program := "ytnigieebmjjjjaa", sum := "71b67c4f53298cc17606a725ac3f58311e02870f0db82b3d7efe928db1048cd4", func := "loop.example/g01017/laws.FnPacking", spec := "fnPacking", unfollowed := true, recurses := true, apart := false, narrowed := true }
def FnPackingUptoSaid : Prop := fnPackingUptoRow.holds Try.pinned (OpenSpec.upto fnPackingSpec)

/-- 'laws.FnDifferences', WHERE WHAT IT READS IS OF BULK AT MOST 1048576: true; the input reads as it did. -/
def fnDifferencesUptoRow : OpenClaim := { program := "ytnigieebmjjjjaa", sum := "71b67c4f53298cc17606a725ac3f58311e02870f0db82b3d7efe928db1048cd4", func := "loop.example/g01017/laws.FnDifferences", spec := "fnDifferences", unfollowed := true, recurses := true, apart := false, narrowed := true }
def FnDifferencesUptoSaid : Prop := fnDifferencesUptoRow.holds Try.pinned (OpenSpec.upto fnDifferencesSpec)

end Rows
end Go.Proofs.Ytnigieebmjjjjaa
