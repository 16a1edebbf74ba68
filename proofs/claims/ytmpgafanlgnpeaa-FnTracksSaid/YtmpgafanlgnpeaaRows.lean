/-
  No cell of these rows narrows 'for every input' (looked for: loops, veiled, ifaces, maps, wideKeys, modest, calm, conditions, laid).
  DERIVED. THE GIVEN ROWS OF THIS SEAT. 12 by the template 'for every input the law returns true; each argument reads behind the call as it read before'; 0 by the template 'total and deterministic' (their statements: YtmpgafanlgnpeaaTotals.lean).
  GIVEN WITH THE SEED: the statements are not yours to turn. If you find one false, say at which input.
  Laid BY PROGRAM, IN A SANDBOX (cutbox-rows.mjs): the forced cells as the released guide's own fill.sh prints them over the translation 044691a7c5b0d227… (all of the seat's roots in one cut). By AI agents, Wed Nov 11 2026. No macro, syntax, notation, axiom, sorry.
-/
import Derived.Test.YtmpgafanlgnpeaaChecked
import GoSem.Claim
import GoSem.ClaimJoined
import GoSem.ClaimMapViews
import Derived.JoinedTies
import Derived.KernelRfl
namespace Go.Proofs.Ytmpgafanlgnpeaa
/- THE CELL 'sum', in the pinned program and in every row, IS THE sha256 OF THE DUMP (.gsa) THAT YtmpgafanlgnpeaaProg.lean LOADS. Nothing in Lean hashes anything: it is a label: what it is worth is what the hold of that sum in a sandbox is worth. -/
noncomputable def Try.pinned : Pinned := { name := "ytmpgafanlgnpeaa", sum := "044691a7c5b0d227901844f4ffc89a4ed92c71ef994dddbebfe6cdd7bce2e21e", checked := Try.checked }
namespace Rows
def none {H : Type} : Left H := { results := [], args := [] }

/-- 'laws.FnExactIsTrack': WHATEVER THE INPUT: true; the input reads as it did. -/
def fnExactIsTrackSpec : ChangeSpec := { name := "fnExactIsTrack", fn := fun _ => fun
  | [d] => { results := [.lit (.bool true)], args := [d] }
  | _ => none }
def fnExactIsTrackRow : OpenClaim := { program := "ytmpgafanlgnpeaa", sum := "044691a7c5b0d227901844f4ffc89a4ed92c71ef994dddbebfe6cdd7bce2e21e", func := "loop.example/g01017/laws.FnExactIsTrack", spec := "fnExactIsTrack", apart := false }
def FnExactIsTrackSaid : Prop := fnExactIsTrackRow.holds Try.pinned (OpenSpec.ofChange fnExactIsTrackSpec)

/-- ITS FALSE NEIGHBOUR: 'it returns false'. Refute it at one input. -/
def fnExactIsTrackWrong : ChangeSpec := { name := "fnExactIsTrack", fn := fun _ => fun
  | [d] => { results := [.lit (.bool false)], args := [d] }
  | _ => none }
def FnExactIsTrackWrongFalsely : Prop := fnExactIsTrackRow.holds Try.pinned (OpenSpec.ofChange fnExactIsTrackWrong)

/-- 'laws.FnExactTrueTick': WHATEVER THE INPUT: true; the input reads as it did. -/
def fnExactTrueTickSpec : ChangeSpec := { name := "fnExactTrueTick", fn := fun _ => fun
  | [d1, d2] => { results := [.lit (.bool true)], args := [d1, d2] }
  | _ => none }
def fnExactTrueTickRow : OpenClaim := { program := "ytmpgafanlgnpeaa", sum := "044691a7c5b0d227901844f4ffc89a4ed92c71ef994dddbebfe6cdd7bce2e21e", func := "loop.example/g01017/laws.FnExactTrueTick", spec := "fnExactTrueTick", apart := false }
def FnExactTrueTickSaid : Prop := fnExactTrueTickRow.holds Try.pinned (OpenSpec.ofChange fnExactTrueTickSpec)

/-- ITS FALSE NEIGHBOUR: 'it returns false'. Refute it at one input. -/
def fnExactTrueTickWrong : ChangeSpec := { name := "fnExactTrueTick", fn := fun _ => fun
  | [d1, d2] => { results := [.lit (.bool false)], args := [d1, d2] }
  | _ => none }
def FnExactTrueTickWrongFalsely : Prop := fnExactTrueTickRow.holds Try.pinned (OpenSpec.ofChange fnExactTrueTickWrong)

/-- 'laws.FnExactShownTick': WHATEVER THE INPUT: true; the input reads as it did. -/
def fnExactShownTickSpec : ChangeSpec := { name := "fnExactShownTick", fn := fun _ => fun
  | [d1, d2] => { results := [.lit (.bool true)], args := [d1, d2] }
  | _ => none }
def fnExactShownTickRow : OpenClaim := { program := "ytmpgafanlgnpeaa", sum := "044691a7c5b0d227901844f4ffc89a4ed92c71ef994dddbebfe6cdd7bce2e21e", func := "loop.example/g01017/laws.FnExactShownTick", spec := "fnExactShownTick", apart := false }
def FnExactShownTickSaid : Prop := fnExactShownTickRow.holds Try.pinned (OpenSpec.ofChange fnExactShownTickSpec)

/-- ITS FALSE NEIGHBOUR: 'it returns false'. Refute it at one input. -/
def fnExactShownTickWrong : ChangeSpec := { name := "fnExactShownTick", fn := fun _ => fun
  | [d1, d2] => { results := [.lit (.bool false)], args := [d1, d2] }
  | _ => none }
def FnExactShownTickWrongFalsely : Prop := fnExactShownTickRow.holds Try.pinned (OpenSpec.ofChange fnExactShownTickWrong)

/-- 'laws.FnExactDriftsOf': WHATEVER THE INPUT: true; the input reads as it did. -/
def fnExactDriftsOfSpec : ChangeSpec := { name := "fnExactDriftsOf", fn := fun _ => fun
  | [d] => { results := [.lit (.bool true)], args := [d] }
  | _ => none }
def fnExactDriftsOfRow : OpenClaim := { program := "ytmpgafanlgnpeaa", sum := "044691a7c5b0d227901844f4ffc89a4ed92c71ef994dddbebfe6cdd7bce2e21e", func := "loop.example/g01017/laws.FnExactDriftsOf", spec := "fnExactDriftsOf", apart := false }
def FnExactDriftsOfSaid : Prop := fnExactDriftsOfRow.holds Try.pinned (OpenSpec.ofChange fnExactDriftsOfSpec)

/-- ITS FALSE NEIGHBOUR: 'it returns false'. Refute it at one input. -/
def fnExactDriftsOfWrong : ChangeSpec := { name := "fnExactDriftsOf", fn := fun _ => fun
  | [d] => { results := [.lit (.bool false)], args := [d] }
  | _ => none }
def FnExactDriftsOfWrongFalsely : Prop := fnExactDriftsOfRow.holds Try.pinned (OpenSpec.ofChange fnExactDriftsOfWrong)

/-- 'laws.FnExactWorstDrift': WHATEVER THE INPUT: true; the input reads as it did. -/
def fnExactWorstDriftSpec : ChangeSpec := { name := "fnExactWorstDrift", fn := fun _ => fun
  | [d] => { results := [.lit (.bool true)], args := [d] }
  | _ => none }
def fnExactWorstDriftRow : OpenClaim := { program := "ytmpgafanlgnpeaa", sum := "044691a7c5b0d227901844f4ffc89a4ed92c71ef994dddbebfe6cdd7bce2e21e", func := "loop.example/g01017/laws.FnExactWorstDrift", spec := "fnExactWorstDrift", apart := false }
def FnExactWorstDriftSaid : Prop := fnExactWorstDriftRow.holds Try.pinned (OpenSpec.ofChange fnExactWorstDriftSpec)

/-- ITS FALSE NEIGHBOUR: 'it returns false'. Refute it at one input. -/
def fnExactWorstDriftWrong : ChangeSpec := { name := "fnExactWorstDrift", fn := fun _ => fun
  | [d] => { results := [.lit (.bool false)], args := [d] }
  | _ => none }
def FnExactWorstDriftWrongFalsely : Prop := fnExactWorstDriftRow.holds Try.pinned (OpenSpec.ofChange fnExactWorstDriftWrong)

/-- 'laws.FnExactAddClockMark': WHATEVER THE INPUT: true; the input reads as it did. -/
def fnExactAddClockMarkSpec : ChangeSpec := { name := "fnExactAddClockMark", fn := fun _ => fun
  | [d1, d2] => { results := [.lit (.bool true)], args := [d1, d2] }
  | _ => none }
def fnExactAddClockMarkRow : OpenClaim := { program := "ytmpgafanlgnpeaa", sum := "044691a7c5b0d227901844f4ffc89a4ed92c71ef994dddbebfe6cdd7bce2e21e", func := "loop.example/g01017/laws.FnExactAddClockMark", spec := "fnExactAddClockMark", unfollowed := true, recurses := true, apart := false }
def FnExactAddClockMarkSaid : Prop := fnExactAddClockMarkRow.holds Try.pinned (OpenSpec.ofChange fnExactAddClockMarkSpec)

/-- ITS FALSE NEIGHBOUR: 'it returns false'. Refute it at one input. -/
def fnExactAddClockMarkWrong : ChangeSpec := { name := "fnExactAddClockMark", fn := fun _ => fun
  | [d1, d2] => { results := [.lit (.bool false)], args := [d1, d2] }
  | _ => none }
def FnExactAddClockMarkWrongFalsely : Prop := fnExactAddClockMarkRow.holds Try.pinned (OpenSpec.ofChange fnExactAddClockMarkWrong)

/-- 'laws.FnExactDropMarks': WHATEVER THE INPUT: true; the input reads as it did. -/
def fnExactDropMarksSpec : ChangeSpec := { name := "fnExactDropMarks", fn := fun _ => fun
  | [d1, d2] => { results := [.lit (.bool true)], args := [d1, d2] }
  | _ => none }
def fnExactDropMarksRow : OpenClaim := { program := "ytmpgafanlgnpeaa", sum := "044691a7c5b0d227901844f4ffc89a4ed92c71ef994dddbebfe6cdd7bce2e21e", func := "loop.example/g01017/laws.FnExactDropMarks", spec := "fnExactDropMarks", apart := false }
def FnExactDropMarksSaid : Prop := fnExactDropMarksRow.holds Try.pinned (OpenSpec.ofChange fnExactDropMarksSpec)

/-- ITS FALSE NEIGHBOUR: 'it returns false'. Refute it at one input. -/
def fnExactDropMarksWrong : ChangeSpec := { name := "fnExactDropMarks", fn := fun _ => fun
  | [d1, d2] => { results := [.lit (.bool false)], args := [d1, d2] }
  | _ => none }
def FnExactDropMarksWrongFalsely : Prop := fnExactDropMarksRow.holds Try.pinned (OpenSpec.ofChange fnExactDropMarksWrong)

/-- 'laws.FnExactSpanOffsets': WHATEVER THE INPUT: true; the input reads as it did. -/
def fnExactSpanOffsetsSpec : ChangeSpec := { name := "fnExactSpanOffsets", fn := fun _ => fun
  | [d] => { results := [.lit (.bool true)], args := [d] }
  | _ => none }
def fnExactSpanOffsetsRow : OpenClaim := { program := "ytmpgafanlgnpeaa", sum := "044691a7c5b0d227901844f4ffc89a4ed92c71ef994dddbebfe6cdd7bce2e21e", func := "loop.example/g01017/laws.FnExactSpanOffsets", spec := "fnExactSpanOffsets", unfollowed := true, recurses := true, apart := false }
def FnExactSpanOffsetsSaid : Prop := fnExactSpanOffsetsRow.holds Try.pinned (OpenSpec.ofChange fnExactSpanOffsetsSpec)

/-- ITS FALSE NEIGHBOUR: 'it returns false'. Refute it at one input. -/
def fnExactSpanOffsetsWrong : ChangeSpec := { name := "fnExactSpanOffsets", fn := fun _ => fun
  | [d] => { results := [.lit (.bool false)], args := [d] }
  | _ => none }
def FnExactSpanOffsetsWrongFalsely : Prop := fnExactSpanOffsetsRow.holds Try.pinned (OpenSpec.ofChange fnExactSpanOffsetsWrong)

/-- 'laws.FnExactStepAt': WHATEVER THE INPUT: true; the input reads as it did. -/
def fnExactStepAtSpec : ChangeSpec := { name := "fnExactStepAt", fn := fun _ => fun
  | [d1, d2] => { results := [.lit (.bool true)], args := [d1, d2] }
  | _ => none }
def fnExactStepAtRow : OpenClaim := { program := "ytmpgafanlgnpeaa", sum := "044691a7c5b0d227901844f4ffc89a4ed92c71ef994dddbebfe6cdd7bce2e21e", func := "loop.example/g01017/laws.FnExactStepAt", spec := "fnExactStepAt", apart := false }
def FnExactStepAtSaid : Prop := fnExactStepAtRow.holds Try.pinned (OpenSpec.ofChange fnExactStepAtSpec)

/-- ITS FALSE NEIGHBOUR: 'it returns false'. Refute it at one input. -/
def fnExactStepAtWrong : ChangeSpec := { name := "fnExactStepAt", fn := fun _ => fun
  | [d1, d2] => { results := [.lit (.bool false)], args := [d1, d2] }
  | _ => none }
def FnExactStepAtWrongFalsely : Prop := fnExactStepAtRow.holds Try.pinned (OpenSpec.ofChange fnExactStepAtWrong)

/-- 'laws.FnExactMergeTracks': WHATEVER THE INPUT: true; the input reads as it did. -/
def fnExactMergeTracksSpec : ChangeSpec := { name := "fnExactMergeTracks", fn := fun _ => fun
  | [d1, d2] => { results := [.lit (.bool true)], args := [d1, d2] }
  | _ => none }
def fnExactMergeTracksRow : OpenClaim := { program := "ytmpgafanlgnpeaa", sum := "044691a7c5b0d227901844f4ffc89a4ed92c71ef994dddbebfe6cdd7bce2e21e", func := "loop.example/g01017/laws.FnExactMergeTracks", spec := "fnExactMergeTracks", unfollowed := true, recurses := true, apart := false }
def FnExactMergeTracksSaid : Prop := fnExactMergeTracksRow.holds Try.pinned (OpenSpec.ofChange fnExactMergeTracksSpec)

/-- ITS FALSE NEIGHBOUR: 'it returns false'. Refute it at one input. -/
def fnExactMergeTracksWrong : ChangeSpec := { name := "fnExactMergeTracks", fn := fun _ => fun
  | [d1, d2] => { results := [.lit (.bool false)], args := [d1, d2] }
  | _ => none }
def FnExactMergeTracksWrongFalsely : Prop := fnExactMergeTracksRow.holds Try.pinned (OpenSpec.ofChange fnExactMergeTracksWrong)

/-- 'laws.FnClocks': WHATEVER THE INPUT: true; the input reads as it did. -/
def fnClocksSpec : ChangeSpec := { name := "fnClocks", fn := fun _ => fun
  | [d] => { results := [.lit (.bool true)], args := [d] }
  | _ => none }
def fnClocksRow : OpenClaim := { program := "ytmpgafanlgnpeaa", sum := "044691a7c5b0d227901844f4ffc89a4ed92c71ef994dddbebfe6cdd7bce2e21e", func := "loop.example/g01017/laws.FnClocks", spec := "fnClocks", unfollowed := true, recurses := true, apart := false }
def FnClocksSaid : Prop := fnClocksRow.holds Try.pinned (OpenSpec.ofChange fnClocksSpec)

/-- ITS FALSE NEIGHBOUR: 'it returns false'. Refute it at one input. -/
def fnClocksWrong : ChangeSpec := { name := "fnClocks", fn := fun _ => fun
  | [d] => { results := [.lit (.bool false)], args := [d] }
  | _ => none }
def FnClocksWrongFalsely : Prop := fnClocksRow.holds Try.pinned (OpenSpec.ofChange fnClocksWrong)

/-- 'laws.FnTracks': WHATEVER THE INPUT: true; the input reads as it did. -/
def fnTracksSpec : ChangeSpec := { name := "fnTracks", fn := fun _ => fun
  | [d] => { results := [.lit (.bool true)], args := [d] }
  | _ => none }
def fnTracksRow : OpenClaim := { program := "ytmpgafanlgnpeaa", sum := "044691a7c5b0d227901844f4ffc89a4ed92c71ef994dddbebfe6cdd7bce2e21e", func := "loop.example/g01017/laws.FnTracks", spec := "fnTracks", unfollowed := true, recurses := true, apart := false }
def FnTracksSaid : Prop := fnTracksRow.holds Try.pinned (OpenSpec.ofChange fnTracksSpec)

/-- ITS FALSE NEIGHBOUR: 'it returns false'. Refute it at one input. -/
def fnTracksWrong : ChangeSpec := { name := "fnTracks", fn := fun _ => fun
  | [d] => { results := [.lit (.bool false)], args := [d] }
  | _ => none }
def FnTracksWrongFalsely : Prop := fnTracksRow.holds Try.pinned (OpenSpec.ofChange fnTracksWrong)

/- THE SECOND FORM. 'bulk': how many values and letters a reading holds, each counted each time it is reached (what is shared counts as often as it is met; a slice's spare places count too). A statement '..UptoSaid' is the law's where the arguments, and the package variables that the reading takes, are together of bulk at most 1048576: NARROWER than '..Said'. Prove '..Said' where nothing that the law and all that it calls make is longer than what came in: it says more and counts as full. Else prove '..UptoSaid'. A law counts once. -/
mutual
def uptoBulk {H : Type} : DataW H → Nat
  | .lit (.string bytes) => bytes.length + 1
  | .lit _ => 1
  | .nil => 1
  | .ptr d => uptoBulk d + 1
  | .slice elems spare => uptoBulkAll elems + uptoBulkAll spare + 1
  | .agg parts => uptoBulkAll parts + 1
  | .iface _ d => uptoBulk d + 1
  | .map entries => uptoBulkEntries entries + 1
  | .held _ => 1
def uptoBulkAll {H : Type} : List (DataW H) → Nat
  | [] => 0
  | d :: r => uptoBulk d + uptoBulkAll r
def uptoBulkEntries {H : Type} : List (Lit × DataW H) → Nat
  | [] => 0
  | x :: r => uptoBulkEntry x + uptoBulkEntries r
def uptoBulkEntry {H : Type} : Lit × DataW H → Nat
  | (.string bytes, d) => bytes.length + uptoBulk d + 1
  | (_, d) => uptoBulk d + 1
 end
def uptoSmall : (H : Type) → List (DataW H) → Bool := fun _ ds => decide (uptoBulkAll ds ≤ 1048576)
def OpenSpec.upto (s : _root_.Go.ChangeSpec) : _root_.Go.OpenSpec := { _root_.Go.OpenSpec.ofChange s with cond := some uptoSmall }

/-- 'laws.FnExactIsTrack', WHERE WHAT IT READS IS OF BULK AT MOST 1048576: true; the input reads as it did. -/
def fnExactIsTrackUptoRow : OpenClaim := { program := "ytmpgafanlgnpeaa", sum := "044691a7c5b0d227901844f4ffc89a4ed92c71ef994dddbebfe6cdd7bce2e21e", func := "loop.example/g01017/laws.FnExactIsTrack", spec := "fnExactIsTrack", apart := false, narrowed := true }
def FnExactIsTrackUptoSaid : Prop := fnExactIsTrackUptoRow.holds Try.pinned (OpenSpec.upto fnExactIsTrackSpec)

/-- 'laws.FnExactTrueTick', WHERE WHAT IT READS IS OF BULK AT MOST 1048576: true; the input reads as it did. -/
def fnExactTrueTickUptoRow : OpenClaim := { program := "ytmpgafanlgnpeaa", sum := "044691a7c5b0d227901844f4ffc89a4ed92c71ef994dddbebfe6cdd7bce2e21e", func := "loop.example/g01017/laws.FnExactTrueTick", spec := "fnExactTrueTick", apart := false, narrowed := true }
def FnExactTrueTickUptoSaid : Prop := fnExactTrueTickUptoRow.holds Try.pinned (OpenSpec.upto fnExactTrueTickSpec)

/-- 'laws.FnExactShownTick', WHERE WHAT IT READS IS OF BULK AT MOST 1048576: true; the input reads as it did. -/
def fnExactShownTickUptoRow : OpenClaim := { program := "ytmpgafanlgnpeaa", sum := "044691a7c5b0d227901844f4ffc89a4ed92c71ef994dddbebfe6cdd7bce2e21e", func := "loop.example/g01017/laws.FnExactShownTick", spec := "fnExactShownTick", apart := false, narrowed := true }
def FnExactShownTickUptoSaid : Prop := fnExactShownTickUptoRow.holds Try.pinned (OpenSpec.upto fnExactShownTickSpec)

/-- 'laws.FnExactDriftsOf', WHERE WHAT IT READS IS OF BULK AT MOST 1048576: true; the input reads as it did. -/
def fnExactDriftsOfUptoRow : OpenClaim := { program := "ytmpgafanlgnpeaa", sum := "044691a7c5b0d227901844f4ffc89a4ed92c71ef994dddbebfe6cdd7bce2e21e", func := "loop.example/g01017/laws.FnExactDriftsOf", spec := "fnExactDriftsOf", apart := false, narrowed := true }
def FnExactDriftsOfUptoSaid : Prop := fnExactDriftsOfUptoRow.holds Try.pinned (OpenSpec.upto fnExactDriftsOfSpec)

/-- 'laws.FnExactWorstDrift', WHERE WHAT IT READS IS OF BULK AT MOST 1048576: true; the input reads as it did. -/
def fnExactWorstDriftUptoRow : OpenClaim := { program := "ytmpgafanlgnpeaa", sum := "044691a7c5b0d227901844f4ffc89a4ed92c71ef994dddbebfe6cdd7bce2e21e", func := "loop.example/g01017/laws.FnExactWorstDrift", spec := "fnExactWorstDrift", apart := false, narrowed := true }
def FnExactWorstDriftUptoSaid : Prop := fnExactWorstDriftUptoRow.holds Try.pinned (OpenSpec.upto fnExactWorstDriftSpec)

/-- 'laws.FnExactAddClockMark', WHERE WHAT IT READS IS OF BULK AT MOST 1048576: true; the input reads as it did. -/
def fnExactAddClockMarkUptoRow : OpenClaim := { program := "ytmpgafanlgnpeaa", sum := "044691a7c5b0d227901844f4ffc89a4ed92c71ef994dddbebfe6cdd7bce2e21e", func := "loop.example/g01017/laws.FnExactAddClockMark", spec := "fnExactAddClockMark", unfollowed := true, recurses := true, apart := false, narrowed := true }
def FnExactAddClockMarkUptoSaid : Prop := fnExactAddClockMarkUptoRow.holds Try.pinned (OpenSpec.upto fnExactAddClockMarkSpec)

/-- 'laws.FnExactDropMarks', WHERE WHAT IT READS IS OF BULK AT MOST 1048576: true; the input reads as it did. -/
def fnExactDropMarksUptoRow : OpenClaim := { program := "ytmpgafanlgnpeaa", sum := "044691a7c5b0d227901844f4ffc89a4ed92c71ef994dddbebfe6cdd7bce2e21e", func := "loop.example/g01017/laws.FnExactDropMarks", spec := "fnExactDropMarks", apart := false, narrowed := true }
def FnExactDropMarksUptoSaid : Prop := fnExactDropMarksUptoRow.holds Try.pinned (OpenSpec.upto fnExactDropMarksSpec)

/-- 'laws.FnExactSpanOffsets', WHERE WHAT IT READS IS OF BULK AT MOST 1048576: true; the input reads as it did. -/
def fnExactSpanOffsetsUptoRow : OpenClaim := { program := "ytmpgafanlgnpeaa", sum := "044691a7c5b0d227901844f4ffc89a4ed92c71ef994dddbebfe6cdd7bce2e21e", func := "loop.example/g01017/laws.FnExactSpanOffsets", spec := "fnExactSpanOffsets", unfollowed := true, recurses := true, apart := false, narrowed := true }
def FnExactSpanOffsetsUptoSaid : Prop := fnExactSpanOffsetsUptoRow.holds Try.pinned (OpenSpec.upto fnExactSpanOffsetsSpec)

/-- 'laws.FnExactStepAt', WHERE WHAT IT READS IS OF BULK AT MOST 1048576: true; the input reads as it did. -/
def fnExactStepAtUptoRow : OpenClaim := { program := "ytmpgafanlgnpeaa", sum := "044691a7c5b0d227901844f4ffc89a4ed92c71ef994dddbebfe6cdd7bce2e21e", func := "loop.example/g01017/laws.FnExactStepAt", spec := "fnExactStepAt", apart := false, narrowed := true }
def FnExactStepAtUptoSaid : Prop := fnExactStepAtUptoRow.holds Try.pinned (OpenSpec.upto fnExactStepAtSpec)

/-- 'laws.FnExactMergeTracks', WHERE WHAT IT READS IS OF BULK AT MOST 1048576: true; the input reads as it did. -/
def fnExactMergeTracksUptoRow : OpenClaim := { program := "ytmpgafanlgnpeaa", sum := "044691a7c5b0d227901844f4ffc89a4ed92c71ef994dddbebfe6cdd7bce2e21e", func := "loop.example/g01017/laws.FnExactMergeTracks", spec := "fnExactMergeTracks", unfollowed := true, recurses := true, apart := false, narrowed := true }
def FnExactMergeTracksUptoSaid : Prop := fnExactMergeTracksUptoRow.holds Try.pinned (OpenSpec.upto fnExactMergeTracksSpec)

/-- 'laws.FnClocks', WHERE WHAT IT READS IS OF BULK AT MOST 1048576: true; the input reads as it did. -/
def fnClocksUptoRow : OpenClaim := { program := "ytmpgafanlgnpeaa", sum := "044691a7c5b0d227901844f4ffc89a4ed92c71ef994dddbebfe6cdd7bce2e21e", func := "loop.example/g01017/laws.FnClocks", spec := "fnClocks", unfollowed := true, recurses := true, apart := false, narrowed := true }
def FnClocksUptoSaid : Prop := fnClocksUptoRow.holds Try.pinned (OpenSpec.upto fnClocksSpec)

/-- 'laws.FnTracks', WHERE WHAT IT READS IS OF BULK AT MOST 1048576: true; the input reads as it did. -/
def fnTracksUptoRow : OpenClaim := { program := "ytmpgafanlgnpeaa", sum := "044691a7c5b0d227901844f4ffc89a4ed92c71ef994dddbebfe6cdd7bce2e21e", func := "loop.example/g01017/laws.FnTracks", spec := "fnTracks", unfollowed := true, recurses := true, apart := false, narrowed := true }
def FnTracksUptoSaid : Prop := fnTracksUptoRow.holds Try.pinned (OpenSpec.upto fnTracksSpec)

end Rows
end Go.Proofs.Ytmpgafanlgnpeaa
