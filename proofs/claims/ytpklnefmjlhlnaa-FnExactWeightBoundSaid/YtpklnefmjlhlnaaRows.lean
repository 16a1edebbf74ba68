/-
  No cell of these rows narrows 'for every input' (looked for: loops, veiled, ifaces, maps, wideKeys, modest, calm, conditions, laid).
  DERIVED. THE GIVEN ROWS OF THIS SEAT. 5 by the template 'for every input the law returns true; each argument reads behind the call as it read before'; 0 by the template 'total and deterministic' (their statements: YtpklnefmjlhlnaaTotals.lean).
  GIVEN WITH THE SEED: the statements are not yours to turn. If you find one false, say at which input.
  Laid BY PROGRAM, IN A SANDBOX (cutbox-rows.mjs): the forced cells as the released guide's own fill.sh prints them over the translation 499a58d8c7d70a75… (all of the seat's roots in one cut). By AI agents, Wed Nov 11 2026. No macro, syntax, notation, axiom, sorry.
-/
import Derived.Test.YtpklnefmjlhlnaaChecked
import GoSem.Claim
import GoSem.ClaimJoined
import GoSem.ClaimMapViews
import Derived.JoinedTies
import Derived.KernelRfl
namespace Go.Proofs.Ytpklnefmjlhlnaa
/- THE CELL 'sum', in the pinned program and in every row, IS THE sha256 OF THE DUMP (.gsa) THAT YtpklnefmjlhlnaaProg.lean LOADS. Nothing in Lean hashes anything: it is a label: what it is worth is what the hold of that sum in a sandbox is worth. -/
noncomputable def Try.pinned : Pinned := { name := "ytpklnefmjlhlnaa", sum := "499a58d8c7d70a757c4b6e5195646873cfa15685a0967dd59367e2891ca1b250", checked := Try.checked }
namespace Rows
def none {H : Type} : Left H := { results := [], args := [] }

/-- 'laws.FnExactClipped': WHATEVER THE INPUT: true; the input reads as it did. -/
def fnExactClippedSpec : ChangeSpec := { name := "fnExactClipped", fn := fun _ => fun
  | [d1, d2] => { results := [.lit (.bool true)], args := [d1, d2] }
  | _ => none }
def fnExactClippedRow : OpenClaim := { program := "ytpklnefmjlhlnaa", sum := "499a58d8c7d70a757c4b6e5195646873cfa15685a0967dd59367e2891ca1b250", func := "loop.example/g01017/laws.FnExactClipped", spec := "fnExactClipped", unfollowed := true, recurses := true, apart := false }
def FnExactClippedSaid : Prop := fnExactClippedRow.holds Try.pinned (OpenSpec.ofChange fnExactClippedSpec)

/-- ITS FALSE NEIGHBOUR: 'it returns false'. Refute it at one input. -/
def fnExactClippedWrong : ChangeSpec := { name := "fnExactClipped", fn := fun _ => fun
  | [d1, d2] => { results := [.lit (.bool false)], args := [d1, d2] }
  | _ => none }
def FnExactClippedWrongFalsely : Prop := fnExactClippedRow.holds Try.pinned (OpenSpec.ofChange fnExactClippedWrong)

/-- 'laws.FnExactEveryNth': WHATEVER THE INPUT: true; the input reads as it did. -/
def fnExactEveryNthSpec : ChangeSpec := { name := "fnExactEveryNth", fn := fun _ => fun
  | [d1, d2] => { results := [.lit (.bool true)], args := [d1, d2] }
  | _ => none }
def fnExactEveryNthRow : OpenClaim := { program := "ytpklnefmjlhlnaa", sum := "499a58d8c7d70a757c4b6e5195646873cfa15685a0967dd59367e2891ca1b250", func := "loop.example/g01017/laws.FnExactEveryNth", spec := "fnExactEveryNth", unfollowed := true, recurses := true, apart := false }
def FnExactEveryNthSaid : Prop := fnExactEveryNthRow.holds Try.pinned (OpenSpec.ofChange fnExactEveryNthSpec)

/-- ITS FALSE NEIGHBOUR: 'it returns false'. Refute it at one input. -/
def fnExactEveryNthWrong : ChangeSpec := { name := "fnExactEveryNth", fn := fun _ => fun
  | [d1, d2] => { results := [.lit (.bool false)], args := [d1, d2] }
  | _ => none }
def FnExactEveryNthWrongFalsely : Prop := fnExactEveryNthRow.holds Try.pinned (OpenSpec.ofChange fnExactEveryNthWrong)

/-- 'laws.FnExactComb': WHATEVER THE INPUT: true; the input reads as it did. -/
def fnExactCombSpec : ChangeSpec := { name := "fnExactComb", fn := fun _ => fun
  | [d1, d2] => { results := [.lit (.bool true)], args := [d1, d2] }
  | _ => none }
def fnExactCombRow : OpenClaim := { program := "ytpklnefmjlhlnaa", sum := "499a58d8c7d70a757c4b6e5195646873cfa15685a0967dd59367e2891ca1b250", func := "loop.example/g01017/laws.FnExactComb", spec := "fnExactComb", unfollowed := true, recurses := true, apart := false }
def FnExactCombSaid : Prop := fnExactCombRow.holds Try.pinned (OpenSpec.ofChange fnExactCombSpec)

/-- ITS FALSE NEIGHBOUR: 'it returns false'. Refute it at one input. -/
def fnExactCombWrong : ChangeSpec := { name := "fnExactComb", fn := fun _ => fun
  | [d1, d2] => { results := [.lit (.bool false)], args := [d1, d2] }
  | _ => none }
def FnExactCombWrongFalsely : Prop := fnExactCombRow.holds Try.pinned (OpenSpec.ofChange fnExactCombWrong)

/-- 'laws.FnExactWeightBound': WHATEVER THE INPUT: true; the input reads as it did. -/
def fnExactWeightBoundSpec : ChangeSpec := { name := "fnExactWeightBound", fn := fun _ => fun
  | [d] => { results := [.lit (.bool true)], args := [d] }
  | _ => none }
def fnExactWeightBoundRow : OpenClaim := { program := "ytpklnefmjlhlnaa", sum := "499a58d8c7d70a757c4b6e5195646873cfa15685a0967dd59367e2891ca1b250", func := "loop.example/g01017/laws.FnExactWeightBound", spec := "fnExactWeightBound", unfollowed := true, recurses := true, apart := false }
def FnExactWeightBoundSaid : Prop := fnExactWeightBoundRow.holds Try.pinned (OpenSpec.ofChange fnExactWeightBoundSpec)

/-- ITS FALSE NEIGHBOUR: 'it returns false'. Refute it at one input. -/
def fnExactWeightBoundWrong : ChangeSpec := { name := "fnExactWeightBound", fn := fun _ => fun
  | [d] => { results := [.lit (.bool false)], args := [d] }
  | _ => none }
def FnExactWeightBoundWrongFalsely : Prop := fnExactWeightBoundRow.holds Try.pinned (OpenSpec.ofChange fnExactWeightBoundWrong)

/-- 'laws.FnExactTurningPoints': WHATEVER THE INPUT: true; the input reads as it did. -/
def fnExactTurningPointsSpec : ChangeSpec := { name := "fnExactTurningPoints", fn := fun _ => fun
  | [d] => { results := [.lit (.bool true)], args := [d] }
  | _ => none }
def fnExactTurningPointsRow : OpenClaim := { program := "ytpklnefmjlhlnaa", sum := "499a58d8c7d70a757c4b6e5195646873cfa15685a0967dd59367e2891ca1b250", func := "loop.example/g01017/laws.FnExactTurningPoints", spec := "fnExactTurningPoints", unfollowed := true, recurses := true, apart := false }
def FnExactTurningPointsSaid : Prop := fnExactTurningPointsRow.holds Try.pinned (OpenSpec.ofChange fnExactTurningPointsSpec)

/-- ITS FALSE NEIGHBOUR: 'it returns false'. Refute it at one input. -/
def fnExactTurningPointsWrong : ChangeSpec := { name := "fnExactTurningPoints", fn := fun _ => fun
  | [d] => { results := [.lit (.bool false)], args := [d] }
  | _ => none }
def FnExactTurningPointsWrongFalsely : Prop := fnExactTurningPointsRow.holds Try.pinned (OpenSpec.ofChange fnExactTurningPointsWrong)

/- THE SECOND FORM. 'bulk': how many values and letters a reading holds, each counted each time it is reached (what is shared counts as often as it is met; a slice's spare places count too). A statement '..UptoSaid' is the law's where the arguments, and the package variables that the reading takes, are together of bulk at most 1048576: NARROWER than '..Said'. Prove '..Said' where nothing that the law and all that it calls make is longer than what came in: it says more and counts as full. Else prove '..UptoSaid'. A law counts once. -/
mutual
def uptoBulk {H : Type} : DataW H → Nat
  | .lit (.string bytes) => bytes.length + 1
  | .lit _ => 1
  | .nil => 1
  | .ptr d => uptoBulk d + 1
  | .slice elems spare => uptoBulkAll elems + uptoBulkAll spare + 1
  | .agg parts => uptoBulkAll parts + 1
  | .iface _ d => uptoBulk d + 1
  | .map entries => uptoBulkEntries entries + 1
  | .held _ => 1
def uptoBulkAll {H : Type} : List (DataW H) → Nat
  | [] => 0
  | d :: r => uptoBulk d + uptoBulkAll r
def uptoBulkEntries {H : Type} : List (Lit × DataW H) → Nat
  | [] => 0
  | x :: r => uptoBulkEntry x + uptoBulkEntries r
def uptoBulkEntry {H : Type} : Lit × DataW H → Nat
  | (.string bytes, d) => bytes.length + uptoBulk d + 1
  | (_, d) => uptoBulk d + 1
 end
def uptoSmall : (H : Type) → List (DataW H) → Bool := fun _ ds => decide (uptoBulkAll ds ≤ 1048576)
def OpenSpec.upto (s : _root_.Go.ChangeSpec) : _root_.Go.OpenSpec := { _root_.Go.OpenSpec.ofChange s with cond := some uptoSmall }

/-- 'laws.FnExactClipped', WHERE WHAT IT READS IS OF BULK AT MOST 1048576: true; the input reads as it did. -/
def fnExactClippedUptoRow : OpenClaim := { program := "ytpklnefmjlhlnaa", sum := "499a58d8c7d70a757c4b6e5195646873cfa15685a0967dd59367e2891ca1b250", func := "loop.example/g01017/laws.FnExactClipped", spec := "fnExactClipped", unfollowed := true, recurses := true, apart := false, narrowed := true }
def FnExactClippedUptoSaid : Prop := fnExactClippedUptoRow.holds Try.pinned (OpenSpec.upto fnExactClippedSpec)

/-- 'laws.FnExactEveryNth', WHERE WHAT IT READS IS OF BULK AT MOST 1048576: true; the input reads as it did. -/
def fnExactEveryNthUptoRow : OpenClaim := { program := "ytpklnefmjlhlnaa", sum := "499a58d8c7d70a757c4b6e5195646873cfa15685a0967dd59367e2891ca1b250", func := "loop.example/g01017/laws.FnExactEveryNth", spec := "fnExactEveryNth", unfollowed := true, recurses := true, apart := false, narrowed := true }
def FnExactEveryNthUptoSaid : Prop := fnExactEveryNthUptoRow.holds Try.pinned (OpenSpec.upto fnExactEveryNthSpec)

/-- 'laws.FnExactComb', WHERE WHAT IT READS IS OF BULK AT MOST 1048576: true; the input reads as it did. -/
def fnExactCombUptoRow : OpenClaim := { program := "ytpklnefmjlhlnaa", sum := "499a58d8c7d70a757c4b6e5195646873cfa15685a0967dd59367e2891ca1b250", func := "loop.example/g01017/laws.FnExactComb", spec := "fnExactComb", unfollowed := true, recurses := true, apart := false, narrowed := true }
def FnExactCombUptoSaid : Prop := fnExactCombUptoRow.holds Try.pinned (OpenSpec.upto fnExactCombSpec)

/-- 'laws.FnExactWeightBound', WHERE WHAT IT READS IS OF BULK AT MOST 1048576: true; the input reads as it did. -/
def fnExactWeightBoundUptoRow : OpenClaim := { program := "ytpklnefmjlhlnaa", sum := "499a58d8c7d70a757c4b6e5195646873cfa15685a0967dd59367e2891ca1b250", func := "loop.example/g01017/laws.FnExactWeightBound", spec := "fnExactWeightBound", unfollowed := true, recurses := true, apart := false, narrowed := true }
def FnExactWeightBoundUptoSaid : Prop := fnExactWeightBoundUptoRow.holds Try.pinned (OpenSpec.upto fnExactWeightBoundSpec)

/-- 'laws.FnExactTurningPoints', WHERE WHAT IT READS IS OF BULK AT MOST 1048576: true; the input reads as it did. -/
def fnExactTurningPointsUptoRow : OpenClaim := { program := "ytpklnefmjlhlnaa", sum := "499a58d8c7d70a757c4b6e5195646873cfa15685a0967dd59367e2891ca1b250", func := "loop.example/g01017/laws.FnExactTurningPoints", spec := "fnExactTurningPoints", unfollowed := true, recurses := true, apart := false, narrowed := true }
def FnExactTurningPointsUptoSaid : Prop := fnExactTurningPointsUptoRow.holds Try.pinned (OpenSpec.upto fnExactTurningPointsSpec)

end Rows
end Go.Proofs.Ytpklnefmjlhlnaa
