/-
  No cell of these rows narrows 'for every input' (looked for: loops, veiled, ifaces, maps, wideKeys, modest, calm, conditions, laid).
  DERIVED. THE GIVEN ROWS OF THIS SEAT. 12 by the template 'for every input the law returns true; each argument reads behind the call as it read before'; 0 by the template 'total and deterministic' (their statements: YtihkocplgciifaaTotals.lean).
  GIVEN WITH THE SEED: the statements are not yours to turn. If you find one false, say at which input.
  Laid BY PROGRAM, IN A SANDBOX (cutbox-rows.mjs): the forced cells as the released guide's own fill.sh prints them over the translation 9d00ac835471f207… (all of the seat's roots in one cut). By AI agents, Wed Nov 11 2026. No macro, syntax, notation, axiom, sorry.
-/
import Derived.Test.YtihkocplgciifaaChecked
import GoSem.Claim
import GoSem.ClaimJoined
import GoSem.ClaimMapViews
import Derived.JoinedTies
import Derived.KernelRfl
namespace Go.Proofs.Ytihkocplgciifaa
/- THE CELL 'sum', in the pinned program and in every row, IS THE sha256 OF THE DUMP (.gsa) THAT YtihkocplgciifaaProg.lean LOADS. Nothing in Lean hashes anything: it is a label: what it is worth is what the hold of that sum in a sandbox is worth. -/
noncomputable def Try.pinned : Pinned := { name := "ytihkocplgciifaa", sum := "9d00ac835471f207f713f2ca4f5c77865e48c777e3683712ee81f0b3b89b9032", checked := Try.checked }
namespace Rows
def none {H : Type} : Left H := { results := [], args := [] }

/-- 'laws.FnExactIsStation': WHATEVER THE INPUT: true; the input reads as it did. -/
def fnExactIsStationSpec : ChangeSpec := { name := "fnExactIsStation", fn := fun _ => fun
  | [d] => { results := [.lit (.bool true)], args := [d] }
  | _ => none }
def fnExactIsStationRow : OpenClaim := { program := "ytihkocplgciifaa", sum := "9d00ac835471f207f713f2ca4f5c77865e48c777e3683712ee81f0b3b89b9032", func := "loop.example/g01017/laws.FnExactIsStation", spec := "fnExactIsStation", plainKeys := false, apart := false }
def FnExactIsStationSaid : Prop := fnExactIsStationRow.holds Try.pinned (OpenSpec.ofChange fnExactIsStationSpec)

/-- ITS FALSE NEIGHBOUR: 'it returns false'. Refute it at one input. -/
def fnExactIsStationWrong : ChangeSpec := { name := "fnExactIsStation", fn := fun _ => fun
  | [d] => { results := [.lit (.bool false)], args := [d] }
  | _ => none }
def FnExactIsStationWrongFalsely : Prop := fnExactIsStationRow.holds Try.pinned (OpenSpec.ofChange fnExactIsStationWrong)

/-- 'laws.FnExactAreStations': WHATEVER THE INPUT: true; the input reads as it did. -/
def fnExactAreStationsSpec : ChangeSpec := { name := "fnExactAreStations", fn := fun _ => fun
  | [d] => { results := [.lit (.bool true)], args := [d] }
  | _ => none }
def fnExactAreStationsRow : OpenClaim := { program := "ytihkocplgciifaa", sum := "9d00ac835471f207f713f2ca4f5c77865e48c777e3683712ee81f0b3b89b9032", func := "loop.example/g01017/laws.FnExactAreStations", spec := "fnExactAreStations", unfollowed := true, recurses := true, plainKeys := false, apart := false }
def FnExactAreStationsSaid : Prop := fnExactAreStationsRow.holds Try.pinned (OpenSpec.ofChange fnExactAreStationsSpec)

/-- ITS FALSE NEIGHBOUR: 'it returns false'. Refute it at one input. -/
def fnExactAreStationsWrong : ChangeSpec := { name := "fnExactAreStations", fn := fun _ => fun
  | [d] => { results := [.lit (.bool false)], args := [d] }
  | _ => none }
def FnExactAreStationsWrongFalsely : Prop := fnExactAreStationsRow.holds Try.pinned (OpenSpec.ofChange fnExactAreStationsWrong)

/-- 'laws.FnExactSpeedOf': WHATEVER THE INPUT: true; the input reads as it did. -/
def fnExactSpeedOfSpec : ChangeSpec := { name := "fnExactSpeedOf", fn := fun _ => fun
  | [d1, d2] => { results := [.lit (.bool true)], args := [d1, d2] }
  | _ => none }
def fnExactSpeedOfRow : OpenClaim := { program := "ytihkocplgciifaa", sum := "9d00ac835471f207f713f2ca4f5c77865e48c777e3683712ee81f0b3b89b9032", func := "loop.example/g01017/laws.FnExactSpeedOf", spec := "fnExactSpeedOf", plainKeys := false, apart := false }
def FnExactSpeedOfSaid : Prop := fnExactSpeedOfRow.holds Try.pinned (OpenSpec.ofChange fnExactSpeedOfSpec)

/-- ITS FALSE NEIGHBOUR: 'it returns false'. Refute it at one input. -/
def fnExactSpeedOfWrong : ChangeSpec := { name := "fnExactSpeedOf", fn := fun _ => fun
  | [d1, d2] => { results := [.lit (.bool false)], args := [d1, d2] }
  | _ => none }
def FnExactSpeedOfWrongFalsely : Prop := fnExactSpeedOfRow.holds Try.pinned (OpenSpec.ofChange fnExactSpeedOfWrong)

/-- 'laws.FnExactNearestStations': WHATEVER THE INPUT: true; the input reads as it did. -/
def fnExactNearestStationsSpec : ChangeSpec := { name := "fnExactNearestStations", fn := fun _ => fun
  | [d1, d2, d3, d4] => { results := [.lit (.bool true)], args := [d1, d2, d3, d4] }
  | _ => none }
def fnExactNearestStationsRow : OpenClaim := { program := "ytihkocplgciifaa", sum := "9d00ac835471f207f713f2ca4f5c77865e48c777e3683712ee81f0b3b89b9032", func := "loop.example/g01017/laws.FnExactNearestStations", spec := "fnExactNearestStations", unfollowed := true, recurses := true, plainKeys := false, apart := false }
def FnExactNearestStationsSaid : Prop := fnExactNearestStationsRow.holds Try.pinned (OpenSpec.ofChange fnExactNearestStationsSpec)

/-- ITS FALSE NEIGHBOUR: 'it returns false'. Refute it at one input. -/
def fnExactNearestStationsWrong : ChangeSpec := { name := "fnExactNearestStations", fn := fun _ => fun
  | [d1, d2, d3, d4] => { results := [.lit (.bool false)], args := [d1, d2, d3, d4] }
  | _ => none }
def FnExactNearestStationsWrongFalsely : Prop := fnExactNearestStationsRow.holds Try.pinned (OpenSpec.ofChange fnExactNearestStationsWrong)

/-- 'laws.FnExactCommonBand': WHATEVER THE INPUT: true; the input reads as it did. -/
def fnExactCommonBandSpec : ChangeSpec := { name := "fnExactCommonBand", fn := fun _ => fun
  | [d] => { results := [.lit (.bool true)], args := [d] }
  | _ => none }
def fnExactCommonBandRow : OpenClaim := { program := "ytihkocplgciifaa", sum := "9d00ac835471f207f713f2ca4f5c77865e48c777e3683712ee81f0b3b89b9032", func := "loop.example/g01017/laws.FnExactCommonBand", spec := "fnExactCommonBand", unfollowed := true, recurses := true, plainKeys := false, apart := false }
def FnExactCommonBandSaid : Prop := fnExactCommonBandRow.holds Try.pinned (OpenSpec.ofChange fnExactCommonBandSpec)

/-- ITS FALSE NEIGHBOUR: 'it returns false'. Refute it at one input. -/
def fnExactCommonBandWrong : ChangeSpec := { name := "fnExactCommonBand", fn := fun _ => fun
  | [d] => { results := [.lit (.bool false)], args := [d] }
  | _ => none }
def FnExactCommonBandWrongFalsely : Prop := fnExactCommonBandRow.holds Try.pinned (OpenSpec.ofChange fnExactCommonBandWrong)

/-- 'laws.FnExactStationsSeeing': WHATEVER THE INPUT: true; the input reads as it did. -/
def fnExactStationsSeeingSpec : ChangeSpec := { name := "fnExactStationsSeeing", fn := fun _ => fun
  | [d1, d2] => { results := [.lit (.bool true)], args := [d1, d2] }
  | _ => none }
def fnExactStationsSeeingRow : OpenClaim := { program := "ytihkocplgciifaa", sum := "9d00ac835471f207f713f2ca4f5c77865e48c777e3683712ee81f0b3b89b9032", func := "loop.example/g01017/laws.FnExactStationsSeeing", spec := "fnExactStationsSeeing", unfollowed := true, recurses := true, plainKeys := false, apart := false }
def FnExactStationsSeeingSaid : Prop := fnExactStationsSeeingRow.holds Try.pinned (OpenSpec.ofChange fnExactStationsSeeingSpec)

/-- ITS FALSE NEIGHBOUR: 'it returns false'. Refute it at one input. -/
def fnExactStationsSeeingWrong : ChangeSpec := { name := "fnExactStationsSeeing", fn := fun _ => fun
  | [d1, d2] => { results := [.lit (.bool false)], args := [d1, d2] }
  | _ => none }
def FnExactStationsSeeingWrongFalsely : Prop := fnExactStationsSeeingRow.holds Try.pinned (OpenSpec.ofChange fnExactStationsSeeingWrong)

/-- 'laws.FnExactUncalibrated': WHATEVER THE INPUT: true; the input reads as it did. -/
def fnExactUncalibratedSpec : ChangeSpec := { name := "fnExactUncalibrated", fn := fun _ => fun
  | [d1, d2] => { results := [.lit (.bool true)], args := [d1, d2] }
  | _ => none }
def fnExactUncalibratedRow : OpenClaim := { program := "ytihkocplgciifaa", sum := "9d00ac835471f207f713f2ca4f5c77865e48c777e3683712ee81f0b3b89b9032", func := "loop.example/g01017/laws.FnExactUncalibrated", spec := "fnExactUncalibrated", unfollowed := true, recurses := true, plainKeys := false, apart := false }
def FnExactUncalibratedSaid : Prop := fnExactUncalibratedRow.holds Try.pinned (OpenSpec.ofChange fnExactUncalibratedSpec)

/-- ITS FALSE NEIGHBOUR: 'it returns false'. Refute it at one input. -/
def fnExactUncalibratedWrong : ChangeSpec := { name := "fnExactUncalibrated", fn := fun _ => fun
  | [d1, d2] => { results := [.lit (.bool false)], args := [d1, d2] }
  | _ => none }
def FnExactUncalibratedWrongFalsely : Prop := fnExactUncalibratedRow.holds Try.pinned (OpenSpec.ofChange fnExactUncalibratedWrong)

/-- 'laws.FnExactRecalibrate': WHATEVER THE INPUT: true; the input reads as it did. -/
def fnExactRecalibrateSpec : ChangeSpec := { name := "fnExactRecalibrate", fn := fun _ => fun
  | [d1, d2, d3, d4] => { results := [.lit (.bool true)], args := [d1, d2, d3, d4] }
  | _ => none }
def fnExactRecalibrateRow : OpenClaim := { program := "ytihkocplgciifaa", sum := "9d00ac835471f207f713f2ca4f5c77865e48c777e3683712ee81f0b3b89b9032", func := "loop.example/g01017/laws.FnExactRecalibrate", spec := "fnExactRecalibrate", unfollowed := true, recurses := true, plainKeys := false, apart := false }
def FnExactRecalibrateSaid : Prop := fnExactRecalibrateRow.holds Try.pinned (OpenSpec.ofChange fnExactRecalibrateSpec)

/-- ITS FALSE NEIGHBOUR: 'it returns false'. Refute it at one input. -/
def fnExactRecalibrateWrong : ChangeSpec := { name := "fnExactRecalibrate", fn := fun _ => fun
  | [d1, d2, d3, d4] => { results := [.lit (.bool false)], args := [d1, d2, d3, d4] }
  | _ => none }
def FnExactRecalibrateWrongFalsely : Prop := fnExactRecalibrateRow.holds Try.pinned (OpenSpec.ofChange fnExactRecalibrateWrong)

/-- 'laws.FnExactLargestGap': WHATEVER THE INPUT: true; the input reads as it did. -/
def fnExactLargestGapSpec : ChangeSpec := { name := "fnExactLargestGap", fn := fun _ => fun
  | [d1, d2, d3] => { results := [.lit (.bool true)], args := [d1, d2, d3] }
  | _ => none }
def fnExactLargestGapRow : OpenClaim := { program := "ytihkocplgciifaa", sum := "9d00ac835471f207f713f2ca4f5c77865e48c777e3683712ee81f0b3b89b9032", func := "loop.example/g01017/laws.FnExactLargestGap", spec := "fnExactLargestGap", unfollowed := true, recurses := true, plainKeys := false, apart := false }
def FnExactLargestGapSaid : Prop := fnExactLargestGapRow.holds Try.pinned (OpenSpec.ofChange fnExactLargestGapSpec)

/-- ITS FALSE NEIGHBOUR: 'it returns false'. Refute it at one input. -/
def fnExactLargestGapWrong : ChangeSpec := { name := "fnExactLargestGap", fn := fun _ => fun
  | [d1, d2, d3] => { results := [.lit (.bool false)], args := [d1, d2, d3] }
  | _ => none }
def FnExactLargestGapWrongFalsely : Prop := fnExactLargestGapRow.holds Try.pinned (OpenSpec.ofChange fnExactLargestGapWrong)

/-- 'laws.FnExactPairDistances': WHATEVER THE INPUT: true; the input reads as it did. -/
def fnExactPairDistancesSpec : ChangeSpec := { name := "fnExactPairDistances", fn := fun _ => fun
  | [d] => { results := [.lit (.bool true)], args := [d] }
  | _ => none }
def fnExactPairDistancesRow : OpenClaim := { program := "ytihkocplgciifaa", sum := "9d00ac835471f207f713f2ca4f5c77865e48c777e3683712ee81f0b3b89b9032", func := "loop.example/g01017/laws.FnExactPairDistances", spec := "fnExactPairDistances", unfollowed := true, recurses := true, plainKeys := false, apart := false }
def FnExactPairDistancesSaid : Prop := fnExactPairDistancesRow.holds Try.pinned (OpenSpec.ofChange fnExactPairDistancesSpec)

/-- ITS FALSE NEIGHBOUR: 'it returns false'. Refute it at one input. -/
def fnExactPairDistancesWrong : ChangeSpec := { name := "fnExactPairDistances", fn := fun _ => fun
  | [d] => { results := [.lit (.bool false)], args := [d] }
  | _ => none }
def FnExactPairDistancesWrongFalsely : Prop := fnExactPairDistancesRow.holds Try.pinned (OpenSpec.ofChange fnExactPairDistancesWrong)

/-- 'laws.FnStations': WHATEVER THE INPUT: true; the input reads as it did. -/
def fnStationsSpec : ChangeSpec := { name := "fnStations", fn := fun _ => fun
  | [d] => { results := [.lit (.bool true)], args := [d] }
  | _ => none }
def fnStationsRow : OpenClaim := { program := "ytihkocplgciifaa", sum := "9d00ac835471f207f713f2ca4f5c77865e48c777e3683712ee81f0b3b89b9032", func := "loop.example/g01017/laws.FnStations", spec := "fnStations", unfollowed := true, recurses := true, plainKeys := false, apart := false }
def FnStationsSaid : Prop := fnStationsRow.holds Try.pinned (OpenSpec.ofChange fnStationsSpec)

/-- ITS FALSE NEIGHBOUR: 'it returns false'. Refute it at one input. -/
def fnStationsWrong : ChangeSpec := { name := "fnStations", fn := fun _ => fun
  | [d] => { results := [.lit (.bool false)], args := [d] }
  | _ => none }
def FnStationsWrongFalsely : Prop := fnStationsRow.holds Try.pinned (OpenSpec.ofChange fnStationsWrong)

/-- 'laws.FnNetworks': WHATEVER THE INPUT: true; the input reads as it did. -/
def fnNetworksSpec : ChangeSpec := { name := "fnNetworks", fn := fun _ => fun
  | [d] => { results := [.lit (.bool true)], args := [d] }
  | _ => none }
def fnNetworksRow : OpenClaim := { program := "ytihkocplgciifaa", sum := "9d00ac835471f207f713f2ca4f5c77865e48c777e3683712ee81f0b3b89b9032", func := "loop.example/g01017/laws.FnNetworks", spec := "fnNetworks", unfollowed := true, recurses := true, plainKeys := false, apart := false }
def FnNetworksSaid : Prop := fnNetworksRow.holds Try.pinned (OpenSpec.ofChange fnNetworksSpec)

/-- ITS FALSE NEIGHBOUR: 'it returns false'. Refute it at one input. -/
def fnNetworksWrong : ChangeSpec := { name := "fnNetworks", fn := fun _ => fun
  | [d] => { results := [.lit (.bool false)], args := [d] }
  | _ => none }
def FnNetworksWrongFalsely : Prop := fnNetworksRow.holds Try.pinned (OpenSpec.ofChange fnNetworksWrong)

/- THE SECOND FORM. 'bulk': how many values and letters a reading holds, each counted each time it is reached (what is shared counts as often as it is met; a slice's spare places count too). A statement '..UptoSaid' is the law's where the arguments, and the package variables that the reading takes, are together of bulk at most 1048576: NARROWER than '..Said'. Prove '..Said' where nothing that the law and all that it calls make is longer than what came in: it says more and counts as full. Else prove '..UptoSaid'. A law counts once. -/
mutual
def uptoBulk {H : Type} : DataW H → Nat
  | .lit (.string bytes) => bytes.length + 1
  | .lit _ => 1
  | .nil => 1
  | .ptr d => uptoBulk d + 1
  | .slice elems spare => uptoBulkAll elems + uptoBulkAll spare + 1
  | .agg parts => uptoBulkAll parts + 1
  | .iface _ d => uptoBulk d + 1
  | .map entries => uptoBulkEntries entries + 1
  | .held _ => 1
def uptoBulkAll {H : Type} : List (DataW H) → Nat
  | [] => 0
  | d :: r => uptoBulk d + uptoBulkAll r
def uptoBulkEntries {H : Type} : List (Lit × DataW H) → Nat
  | [] => 0
  | x :: r => uptoBulkEntry x + uptoBulkEntries r
def uptoBulkEntry {H : Type} : Lit × DataW H → Nat
  | (.string bytes, d) => bytes.length + uptoBulk d + 1
  | (_, d) => uptoBulk d + 1
 end
def uptoSmall : (H : Type) → List (DataW H) → Bool := fun _ ds => decide (uptoBulkAll ds ≤ 1048576)
def OpenSpec.upto (s : _root_.Go.ChangeSpec) : _root_.Go.OpenSpec := { _root_.Go.OpenSpec.ofChange s with cond := some uptoSmall }

/-- 'laws.FnExactIsStation', WHERE WHAT IT READS IS OF BULK AT MOST 1048576: true; the input reads as it did. -/
def fnExactIsStationUptoRow : OpenClaim := { program := "ytihkocplgciifaa", sum := "9d00ac835471f207f713f2ca4f5c77865e48c777e3683712ee81f0b3b89b9032", func := "loop.example/g01017/laws.FnExactIsStation", spec := "fnExactIsStation", plainKeys := false, apart := false, narrowed := true }
def FnExactIsStationUptoSaid : Prop := fnExactIsStationUptoRow.holds Try.pinned (OpenSpec.upto fnExactIsStationSpec)

/-- 'laws.FnExactAreStations', WHERE WHAT IT READS IS OF BULK AT MOST 1048576: true; the input reads as it did. -/
def fnExactAreStationsUptoRow : OpenClaim := { program := "ytihkocplgciifaa", sum := "9d00ac835471f207f713f2ca4f5c77865e48c777e3683712ee81f0b3b89b9032", func := "loop.example/g01017/laws.FnExactAreStations", spec := "fnExactAreStations", unfollowed := true, recurses := true, plainKeys := false, apart := false, narrowed := true }
def FnExactAreStationsUptoSaid : Prop := fnExactAreStationsUptoRow.holds Try.pinned (OpenSpec.upto fnExactAreStationsSpec)

/-- 'laws.FnExactSpeedOf', WHERE WHAT IT READS IS OF BULK AT MOST 1048576: true; the input reads as it did. -/
def fnExactSpeedOfUptoRow : OpenClaim := { program := "ytihkocplgciifaa", sum := "9d00ac835471f207f713f2ca4f5c77865e48c777e3683712ee81f0b3b89b9032", func := "loop.example/g01017/laws.FnExactSpeedOf", spec := "fnExactSpeedOf", plainKeys := false, apart := false, narrowed := true }
def FnExactSpeedOfUptoSaid : Prop := fnExactSpeedOfUptoRow.holds Try.pinned (OpenSpec.upto fnExactSpeedOfSpec)

/-- 'laws.FnExactNearestStations', WHERE WHAT IT READS IS OF BULK AT MOST 1048576: true; the input reads as it did. -/
def fnExactNearestStationsUptoRow : OpenClaim := { program := "ytihkocplgciifaa", sum := "9d00ac835471f207f713f2ca4f5c77865e48c777e3683712ee81f0b3b89b9032", func := "loop.example/g01017/laws.FnExactNearestStations", spec := "fnExactNearestStations", unfollowed := true, recurses := true, plainKeys := false, apart := false, narrowed := true }
def FnExactNearestStationsUptoSaid : Prop := fnExactNearestStationsUptoRow.holds Try.pinned (OpenSpec.upto fnExactNearestStationsSpec)

/-- 'laws.FnExactCommonBand', WHERE WHAT IT READS IS OF BULK AT MOST 1048576: true; the input reads as it did. -/
def fnExactCommonBandUptoRow : OpenClaim := { program := "ytihkocplgciifaa", sum := "9d00ac835471f207f713f2ca4f5c77865e48c777e3683712ee81f0b3b89b9032", func := "loop.example/g01017/laws.FnExactCommonBand", spec := "fnExactCommonBand", unfollowed := true, recurses := true, plainKeys := false, apart := false, narrowed := true }
def FnExactCommonBandUptoSaid : Prop := fnExactCommonBandUptoRow.holds Try.pinned (OpenSpec.upto fnExactCommonBandSpec)

/-- 'laws.FnExactStationsSeeing', WHERE WHAT IT READS IS OF BULK AT MOST 1048576: true; the input reads as it did. -/
def fnExactStationsSeeingUptoRow : OpenClaim := { program := "ytihkocplgciifaa", sum := "9d00ac835471f207f713f2ca4f5c77865e48c777e3683712ee81f0b3b89b9032", func := "loop.example/g01017/laws.FnExactStationsSeeing", spec := "fnExactStationsSeeing", unfollowed := true, recurses := true, plainKeys := false, apart := false, narrowed := true }
def FnExactStationsSeeingUptoSaid : Prop := fnExactStationsSeeingUptoRow.holds Try.pinned (OpenSpec.upto fnExactStationsSeeingSpec)

/-- 'laws.FnExactUncalibrated', WHERE WHAT IT READS IS OF BULK AT MOST 1048576: true; the input reads as it did. -/
def fnExactUncalibratedUptoRow : OpenClaim := { program := "ytihkocplgciifaa", sum := "9d00ac835471f207f713f2ca4f5c77865e48c777e3683712ee81f0b3b89b9032", func := "loop.example/g01017/laws.FnExactUncalibrated", spec := "fnExactUncalibrated", unfollowed := true, recurses := true, plainKeys := false, apart := false, narrowed := true }
def FnExactUncalibratedUptoSaid : Prop := fnExactUncalibratedUptoRow.holds Try.pinned (OpenSpec.upto fnExactUncalibratedSpec)

/-- 'laws.FnExactRecalibrate', WHERE WHAT IT READS IS OF BULK AT MOST 1048576: true; the input reads as it did. -/
def fnExactRecalibrateUptoRow : OpenClaim := { program := "ytihkocplgciifaa", sum := "9d00ac835471f207f713f2ca4f5c77865e48c777e3683712ee81f0b3b89b9032", func := "loop.example/g01017/laws.FnExactRecalibrate", spec := "fnExactRecalibrate", unfollowed := true, recurses := true, plainKeys := false, apart := false, narrowed := true }
def FnExactRecalibrateUptoSaid : Prop := fnExactRecalibrateUptoRow.holds Try.pinned (OpenSpec.upto fnExactRecalibrateSpec)

/-- 'laws.FnExactLargestGap', WHERE WHAT IT READS IS OF BULK AT MOST 1048576: true; the input reads as it did. -/
def fnExactLargestGapUptoRow : OpenClaim := { program := "ytihkocplgciifaa", sum := "9d00ac835471f207f713f2ca4f5c77865e48c777e3683712ee81f0b3b89b9032", func := "loop.example/g01017/laws.FnExactLargestGap", spec := "fnExactLargestGap", unfollowed := true, recurses := true, plainKeys := false, apart := false, narrowed := true }
def FnExactLargestGapUptoSaid : Prop := fnExactLargestGapUptoRow.holds Try.pinned (OpenSpec.upto fnExactLargestGapSpec)

/-- 'laws.FnExactPairDistances', WHERE WHAT IT READS IS OF BULK AT MOST 1048576: true; the input reads as it did. -/
def fnExactPairDistancesUptoRow : OpenClaim := { program := "ytihkocplgciifaa", sum := "9d00ac835471f207f713f2ca4f5c77865e48c777e3683712ee81f0b3b89b9032", func := "loop.example/g01017/laws.FnExactPairDistances", spec := "fnExactPairDistances", unfollowed := true, recurses := true, plainKeys := false, apart := false, narrowed := true }
def FnExactPairDistancesUptoSaid : Prop := fnExactPairDistancesUptoRow.holds Try.pinned (OpenSpec.upto fnExactPairDistancesSpec)

/-- 'laws.FnStations', WHERE WHAT IT READS IS OF BULK AT MOST 1048576: true; the input reads as it did. -/
def fnStationsUptoRow : OpenClaim := { program := "ytihkocplgciifaa", sum := "9d00ac835471f207f713f2ca4f5c77865e48c777e3683712ee81f0b3b89b9032", func := "loop.example/g01017/laws.FnStations", spec := "fnStations", unfollowed := true, recurses := true, plainKeys := false, apart := false, narrowed := true }
def FnStationsUptoSaid : Prop := fnStationsUptoRow.holds Try.pinned (OpenSpec.upto fnStationsSpec)

/-- 'laws.FnNetworks', WHERE WHAT IT READS IS OF BULK AT MOST 1048576: true; the input reads as it did. -/
def fnNetworksUptoRow : OpenClaim := { program := "ytihkocplgciifaa", sum := "9d00ac835471f207f713f2ca4f5c77865e48c777e3683712ee81f0b3b89b9032", func := "loop.example/g01017/laws.FnNetworks", spec := "fnNetworks", unfollowed := true, recurses := true, plainKeys := false, apart := false, narrowed := true }
def FnNetworksUptoSaid : Prop := fnNetworksUptoRow.holds Try.pinned (OpenSpec.upto fnNetworksSpec)

end Rows
end Go.Proofs.Ytihkocplgciifaa
