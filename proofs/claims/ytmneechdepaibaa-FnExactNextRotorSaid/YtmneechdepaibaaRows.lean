/-
  No cell of these rows narrows 'for every input' (looked for: loops, veiled, ifaces, maps, wideKeys, modest, calm, conditions, laid).
  DERIVED. THE GIVEN ROWS OF THIS SEAT. 20 by the template 'for every input the law returns true; each argument reads behind the call as it read before'; 0 by the template 'total and deterministic' (their statements: YtmneechdepaibaaTotals.lean).
  GIVEN WITH THE SEED: the statements are not yours to turn. If you find one false, say at which input.
  Laid BY PROGRAM, IN A SANDBOX (cutbox-rows.mjs): the forced cells as the released guide's own fill.sh prints them over the translation 12d7a805da29dd13… (all of the seat's roots in one cut). By AI agents, Wed Nov 11 2026. No macro, syntax, notation, axiom, sorry.
-/
import Derived.Test.YtmneechdepaibaaChecked
import GoSem.Claim
import GoSem.ClaimJoined
import GoSem.ClaimMapViews
import Derived.JoinedTies
import Derived.KernelRfl
namespace Go.Proofs.Ytmneechdepaibaa
/- THE CELL 'sum', in the pinned program and in every row, IS THE sha256 OF THE DUMP (.gsa) THAT YtmneechdepaibaaProg.lean LOADS. Nothing in Lean hashes anything: it is a label: what it is worth is what the hold of that sum in a sandbox is worth. -/
noncomputable def Try.pinned : Pinned := { name := "ytmneechdepaibaa", sum := "12d7a805da29dd130243972155b97aa16eb395964f8803360518e84b116c7c66", checked := Try.checked }
namespace Rows
def none {H : Type} : Left H := { results := [], args := [] }

/-- 'laws.FnExactReverseOrient': WHATEVER THE INPUT: true; the input reads as it did. -/
def fnExactReverseOrientSpec : ChangeSpec := { name := "fnExactReverseOrient", fn := fun _ => fun
  | [d] => { results := [.lit (.bool true)], args := [d] }
  | _ => none }
def fnExactReverseOrientRow : OpenClaim := { program := "ytmneechdepaibaa", sum := "12d7a805da29dd130243972155b97aa16eb395964f8803360518e84b116c7c66", func := "loop.example/g00841/laws.FnExactReverseOrient", spec := "fnExactReverseOrient", apart := false }
def FnExactReverseOrientSaid : Prop := fnExactReverseOrientRow.holds Try.pinned (OpenSpec.ofChange fnExactReverseOrientSpec)

/-- ITS FALSE NEIGHBOUR: 'it returns false'. Refute it at one input. -/
def fnExactReverseOrientWrong : ChangeSpec := { name := "fnExactReverseOrient", fn := fun _ => fun
  | [d] => { results := [.lit (.bool false)], args := [d] }
  | _ => none }
def FnExactReverseOrientWrongFalsely : Prop := fnExactReverseOrientRow.holds Try.pinned (OpenSpec.ofChange fnExactReverseOrientWrong)

/-- 'laws.FnExactValueAt': WHATEVER THE INPUT: true; the input reads as it did. -/
def fnExactValueAtSpec : ChangeSpec := { name := "fnExactValueAt", fn := fun _ => fun
  | [d1, d2, d3] => { results := [.lit (.bool true)], args := [d1, d2, d3] }
  | _ => none }
def fnExactValueAtRow : OpenClaim := { program := "ytmneechdepaibaa", sum := "12d7a805da29dd130243972155b97aa16eb395964f8803360518e84b116c7c66", func := "loop.example/g00841/laws.FnExactValueAt", spec := "fnExactValueAt", apart := false }
def FnExactValueAtSaid : Prop := fnExactValueAtRow.holds Try.pinned (OpenSpec.ofChange fnExactValueAtSpec)

/-- ITS FALSE NEIGHBOUR: 'it returns false'. Refute it at one input. -/
def fnExactValueAtWrong : ChangeSpec := { name := "fnExactValueAt", fn := fun _ => fun
  | [d1, d2, d3] => { results := [.lit (.bool false)], args := [d1, d2, d3] }
  | _ => none }
def FnExactValueAtWrongFalsely : Prop := fnExactValueAtRow.holds Try.pinned (OpenSpec.ofChange fnExactValueAtWrong)

/-- 'laws.FnExactRowOfOne': WHATEVER THE INPUT: true; the input reads as it did. -/
def fnExactRowOfOneSpec : ChangeSpec := { name := "fnExactRowOfOne", fn := fun _ => fun
  | [d] => { results := [.lit (.bool true)], args := [d] }
  | _ => none }
def fnExactRowOfOneRow : OpenClaim := { program := "ytmneechdepaibaa", sum := "12d7a805da29dd130243972155b97aa16eb395964f8803360518e84b116c7c66", func := "loop.example/g00841/laws.FnExactRowOfOne", spec := "fnExactRowOfOne", apart := false }
def FnExactRowOfOneSaid : Prop := fnExactRowOfOneRow.holds Try.pinned (OpenSpec.ofChange fnExactRowOfOneSpec)

/-- ITS FALSE NEIGHBOUR: 'it returns false'. Refute it at one input. -/
def fnExactRowOfOneWrong : ChangeSpec := { name := "fnExactRowOfOne", fn := fun _ => fun
  | [d] => { results := [.lit (.bool false)], args := [d] }
  | _ => none }
def FnExactRowOfOneWrongFalsely : Prop := fnExactRowOfOneRow.holds Try.pinned (OpenSpec.ofChange fnExactRowOfOneWrong)

/-- 'laws.FnExactNextRotor': WHATEVER THE INPUT: true; the input reads as it did. -/
def fnExactNextRotorSpec : ChangeSpec := { name := "fnExactNextRotor", fn := fun _ => fun
  | [d1, d2, d3] => { results := [.lit (.bool true)], args := [d1, d2, d3] }
  | _ => none }
def fnExactNextRotorRow : OpenClaim := { program := "ytmneechdepaibaa", sum := "12d7a805da29dd130243972155b97aa16eb395964f8803360518e84b116c7c66", func := "loop.example/g00841/laws.FnExactNextRotor", spec := "fnExactNextRotor", unfollowed := true, recurses := true, apart := false }
def FnExactNextRotorSaid : Prop := fnExactNextRotorRow.holds Try.pinned (OpenSpec.ofChange fnExactNextRotorSpec)

/-- ITS FALSE NEIGHBOUR: 'it returns false'. Refute it at one input. -/
def fnExactNextRotorWrong : ChangeSpec := { name := "fnExactNextRotor", fn := fun _ => fun
  | [d1, d2, d3] => { results := [.lit (.bool false)], args := [d1, d2, d3] }
  | _ => none }
def FnExactNextRotorWrongFalsely : Prop := fnExactNextRotorRow.holds Try.pinned (OpenSpec.ofChange fnExactNextRotorWrong)

/-- 'laws.FnExactOrientOk': WHATEVER THE INPUT: true; the input reads as it did. -/
def fnExactOrientOkSpec : ChangeSpec := { name := "fnExactOrientOk", fn := fun _ => fun
  | [d1, d2] => { results := [.lit (.bool true)], args := [d1, d2] }
  | _ => none }
def fnExactOrientOkRow : OpenClaim := { program := "ytmneechdepaibaa", sum := "12d7a805da29dd130243972155b97aa16eb395964f8803360518e84b116c7c66", func := "loop.example/g00841/laws.FnExactOrientOk", spec := "fnExactOrientOk", unfollowed := true, recurses := true, apart := false }
def FnExactOrientOkSaid : Prop := fnExactOrientOkRow.holds Try.pinned (OpenSpec.ofChange fnExactOrientOkSpec)

/-- ITS FALSE NEIGHBOUR: 'it returns false'. Refute it at one input. -/
def fnExactOrientOkWrong : ChangeSpec := { name := "fnExactOrientOk", fn := fun _ => fun
  | [d1, d2] => { results := [.lit (.bool false)], args := [d1, d2] }
  | _ => none }
def FnExactOrientOkWrongFalsely : Prop := fnExactOrientOkRow.holds Try.pinned (OpenSpec.ofChange fnExactOrientOkWrong)

/-- 'laws.FnExactRotorsOk': WHATEVER THE INPUT: true; the input reads as it did. -/
def fnExactRotorsOkSpec : ChangeSpec := { name := "fnExactRotorsOk", fn := fun _ => fun
  | [d1, d2, d3] => { results := [.lit (.bool true)], args := [d1, d2, d3] }
  | _ => none }
def fnExactRotorsOkRow : OpenClaim := { program := "ytmneechdepaibaa", sum := "12d7a805da29dd130243972155b97aa16eb395964f8803360518e84b116c7c66", func := "loop.example/g00841/laws.FnExactRotorsOk", spec := "fnExactRotorsOk", unfollowed := true, recurses := true, apart := false }
def FnExactRotorsOkSaid : Prop := fnExactRotorsOkRow.holds Try.pinned (OpenSpec.ofChange fnExactRotorsOkSpec)

/-- ITS FALSE NEIGHBOUR: 'it returns false'. Refute it at one input. -/
def fnExactRotorsOkWrong : ChangeSpec := { name := "fnExactRotorsOk", fn := fun _ => fun
  | [d1, d2, d3] => { results := [.lit (.bool false)], args := [d1, d2, d3] }
  | _ => none }
def FnExactRotorsOkWrongFalsely : Prop := fnExactRotorsOkRow.holds Try.pinned (OpenSpec.ofChange fnExactRotorsOkWrong)

/-- 'laws.FnExactIsBridge': WHATEVER THE INPUT: true; the input reads as it did. -/
def fnExactIsBridgeSpec : ChangeSpec := { name := "fnExactIsBridge", fn := fun _ => fun
  | [d1, d2] => { results := [.lit (.bool true)], args := [d1, d2] }
  | _ => none }
def fnExactIsBridgeRow : OpenClaim := { program := "ytmneechdepaibaa", sum := "12d7a805da29dd130243972155b97aa16eb395964f8803360518e84b116c7c66", func := "loop.example/g00841/laws.FnExactIsBridge", spec := "fnExactIsBridge", unfollowed := true, recurses := true, apart := false }
def FnExactIsBridgeSaid : Prop := fnExactIsBridgeRow.holds Try.pinned (OpenSpec.ofChange fnExactIsBridgeSpec)

/-- ITS FALSE NEIGHBOUR: 'it returns false'. Refute it at one input. -/
def fnExactIsBridgeWrong : ChangeSpec := { name := "fnExactIsBridge", fn := fun _ => fun
  | [d1, d2] => { results := [.lit (.bool false)], args := [d1, d2] }
  | _ => none }
def FnExactIsBridgeWrongFalsely : Prop := fnExactIsBridgeRow.holds Try.pinned (OpenSpec.ofChange fnExactIsBridgeWrong)

/-- 'laws.FnRecurrent': WHATEVER THE INPUT: true; the input reads as it did. -/
def fnRecurrentSpec : ChangeSpec := { name := "fnRecurrent", fn := fun _ => fun
  | [d] => { results := [.lit (.bool true)], args := [d] }
  | _ => none }
def fnRecurrentRow : OpenClaim := { program := "ytmneechdepaibaa", sum := "12d7a805da29dd130243972155b97aa16eb395964f8803360518e84b116c7c66", func := "loop.example/g00841/laws.FnRecurrent", spec := "fnRecurrent", unfollowed := true, recurses := true, apart := false }
def FnRecurrentSaid : Prop := fnRecurrentRow.holds Try.pinned (OpenSpec.ofChange fnRecurrentSpec)

/-- ITS FALSE NEIGHBOUR: 'it returns false'. Refute it at one input. -/
def fnRecurrentWrong : ChangeSpec := { name := "fnRecurrent", fn := fun _ => fun
  | [d] => { results := [.lit (.bool false)], args := [d] }
  | _ => none }
def FnRecurrentWrongFalsely : Prop := fnRecurrentRow.holds Try.pinned (OpenSpec.ofChange fnRecurrentWrong)

/-- 'laws.FnExactIsTree': WHATEVER THE INPUT: true; the input reads as it did. -/
def fnExactIsTreeSpec : ChangeSpec := { name := "fnExactIsTree", fn := fun _ => fun
  | [d1, d2] => { results := [.lit (.bool true)], args := [d1, d2] }
  | _ => none }
def fnExactIsTreeRow : OpenClaim := { program := "ytmneechdepaibaa", sum := "12d7a805da29dd130243972155b97aa16eb395964f8803360518e84b116c7c66", func := "loop.example/g00841/laws.FnExactIsTree", spec := "fnExactIsTree", unfollowed := true, recurses := true, apart := false }
def FnExactIsTreeSaid : Prop := fnExactIsTreeRow.holds Try.pinned (OpenSpec.ofChange fnExactIsTreeSpec)

/-- ITS FALSE NEIGHBOUR: 'it returns false'. Refute it at one input. -/
def fnExactIsTreeWrong : ChangeSpec := { name := "fnExactIsTree", fn := fun _ => fun
  | [d1, d2] => { results := [.lit (.bool false)], args := [d1, d2] }
  | _ => none }
def FnExactIsTreeWrongFalsely : Prop := fnExactIsTreeRow.holds Try.pinned (OpenSpec.ofChange fnExactIsTreeWrong)

/-- 'laws.FnExactPileOk': WHATEVER THE INPUT: true; the input reads as it did. -/
def fnExactPileOkSpec : ChangeSpec := { name := "fnExactPileOk", fn := fun _ => fun
  | [d1, d2, d3] => { results := [.lit (.bool true)], args := [d1, d2, d3] }
  | _ => none }
def fnExactPileOkRow : OpenClaim := { program := "ytmneechdepaibaa", sum := "12d7a805da29dd130243972155b97aa16eb395964f8803360518e84b116c7c66", func := "loop.example/g00841/laws.FnExactPileOk", spec := "fnExactPileOk", unfollowed := true, recurses := true, apart := false }
def FnExactPileOkSaid : Prop := fnExactPileOkRow.holds Try.pinned (OpenSpec.ofChange fnExactPileOkSpec)

/-- ITS FALSE NEIGHBOUR: 'it returns false'. Refute it at one input. -/
def fnExactPileOkWrong : ChangeSpec := { name := "fnExactPileOk", fn := fun _ => fun
  | [d1, d2, d3] => { results := [.lit (.bool false)], args := [d1, d2, d3] }
  | _ => none }
def FnExactPileOkWrongFalsely : Prop := fnExactPileOkRow.holds Try.pinned (OpenSpec.ofChange fnExactPileOkWrong)

/-- 'laws.FnExactIsTreeState': WHATEVER THE INPUT: true; the input reads as it did. -/
def fnExactIsTreeStateSpec : ChangeSpec := { name := "fnExactIsTreeState", fn := fun _ => fun
  | [d1, d2, d3] => { results := [.lit (.bool true)], args := [d1, d2, d3] }
  | _ => none }
def fnExactIsTreeStateRow : OpenClaim := { program := "ytmneechdepaibaa", sum := "12d7a805da29dd130243972155b97aa16eb395964f8803360518e84b116c7c66", func := "loop.example/g00841/laws.FnExactIsTreeState", spec := "fnExactIsTreeState", unfollowed := true, recurses := true, apart := false }
def FnExactIsTreeStateSaid : Prop := fnExactIsTreeStateRow.holds Try.pinned (OpenSpec.ofChange fnExactIsTreeStateSpec)

/-- ITS FALSE NEIGHBOUR: 'it returns false'. Refute it at one input. -/
def fnExactIsTreeStateWrong : ChangeSpec := { name := "fnExactIsTreeState", fn := fun _ => fun
  | [d1, d2, d3] => { results := [.lit (.bool false)], args := [d1, d2, d3] }
  | _ => none }
def FnExactIsTreeStateWrongFalsely : Prop := fnExactIsTreeStateRow.holds Try.pinned (OpenSpec.ofChange fnExactIsTreeStateWrong)

/-- 'laws.FnExactFullPile': WHATEVER THE INPUT: true; the input reads as it did. -/
def fnExactFullPileSpec : ChangeSpec := { name := "fnExactFullPile", fn := fun _ => fun
  | [d1, d2] => { results := [.lit (.bool true)], args := [d1, d2] }
  | _ => none }
def fnExactFullPileRow : OpenClaim := { program := "ytmneechdepaibaa", sum := "12d7a805da29dd130243972155b97aa16eb395964f8803360518e84b116c7c66", func := "loop.example/g00841/laws.FnExactFullPile", spec := "fnExactFullPile", unfollowed := true, recurses := true, apart := false }
def FnExactFullPileSaid : Prop := fnExactFullPileRow.holds Try.pinned (OpenSpec.ofChange fnExactFullPileSpec)

/-- ITS FALSE NEIGHBOUR: 'it returns false'. Refute it at one input. -/
def fnExactFullPileWrong : ChangeSpec := { name := "fnExactFullPile", fn := fun _ => fun
  | [d1, d2] => { results := [.lit (.bool false)], args := [d1, d2] }
  | _ => none }
def FnExactFullPileWrongFalsely : Prop := fnExactFullPileRow.holds Try.pinned (OpenSpec.ofChange fnExactFullPileWrong)

/-- 'laws.FnExactIsAcyclic': WHATEVER THE INPUT: true; the input reads as it did. -/
def fnExactIsAcyclicSpec : ChangeSpec := { name := "fnExactIsAcyclic", fn := fun _ => fun
  | [d1, d2] => { results := [.lit (.bool true)], args := [d1, d2] }
  | _ => none }
def fnExactIsAcyclicRow : OpenClaim := { program := "ytmneechdepaibaa", sum := "12d7a805da29dd130243972155b97aa16eb395964f8803360518e84b116c7c66", func := "loop.example/g00841/laws.FnExactIsAcyclic", spec := "fnExactIsAcyclic", unfollowed := true, recurses := true, apart := false }
def FnExactIsAcyclicSaid : Prop := fnExactIsAcyclicRow.holds Try.pinned (OpenSpec.ofChange fnExactIsAcyclicSpec)

/-- ITS FALSE NEIGHBOUR: 'it returns false'. Refute it at one input. -/
def fnExactIsAcyclicWrong : ChangeSpec := { name := "fnExactIsAcyclic", fn := fun _ => fun
  | [d1, d2] => { results := [.lit (.bool false)], args := [d1, d2] }
  | _ => none }
def FnExactIsAcyclicWrongFalsely : Prop := fnExactIsAcyclicRow.holds Try.pinned (OpenSpec.ofChange fnExactIsAcyclicWrong)

/-- 'laws.FnExactIsStable': WHATEVER THE INPUT: true; the input reads as it did. -/
def fnExactIsStableSpec : ChangeSpec := { name := "fnExactIsStable", fn := fun _ => fun
  | [d1, d2, d3] => { results := [.lit (.bool true)], args := [d1, d2, d3] }
  | _ => none }
def fnExactIsStableRow : OpenClaim := { program := "ytmneechdepaibaa", sum := "12d7a805da29dd130243972155b97aa16eb395964f8803360518e84b116c7c66", func := "loop.example/g00841/laws.FnExactIsStable", spec := "fnExactIsStable", unfollowed := true, recurses := true, apart := false }
def FnExactIsStableSaid : Prop := fnExactIsStableRow.holds Try.pinned (OpenSpec.ofChange fnExactIsStableSpec)

/-- ITS FALSE NEIGHBOUR: 'it returns false'. Refute it at one input. -/
def fnExactIsStableWrong : ChangeSpec := { name := "fnExactIsStable", fn := fun _ => fun
  | [d1, d2, d3] => { results := [.lit (.bool false)], args := [d1, d2, d3] }
  | _ => none }
def FnExactIsStableWrongFalsely : Prop := fnExactIsStableRow.holds Try.pinned (OpenSpec.ofChange fnExactIsStableWrong)

/-- 'laws.FnParking': WHATEVER THE INPUT: true; the input reads as it did. -/
def fnParkingSpec : ChangeSpec := { name := "fnParking", fn := fun _ => fun
  | [d] => { results := [.lit (.bool true)], args := [d] }
  | _ => none }
def fnParkingRow : OpenClaim := { program := "ytmneechdepaibaa", sum := "12d7a805da29dd130243972155b97aa16eb395964f8803360518e84b116c7c66", func := "loop.example/g00841/laws.FnParking", spec := "fnParking", unfollowed := true, recurses := true, apart := false }
def FnParkingSaid : Prop := fnParkingRow.holds Try.pinned (OpenSpec.ofChange fnParkingSpec)

/-- ITS FALSE NEIGHBOUR: 'it returns false'. Refute it at one input. -/
def fnParkingWrong : ChangeSpec := { name := "fnParking", fn := fun _ => fun
  | [d] => { results := [.lit (.bool false)], args := [d] }
  | _ => none }
def FnParkingWrongFalsely : Prop := fnParkingRow.holds Try.pinned (OpenSpec.ofChange fnParkingWrong)

/-- 'laws.FnExactDivisorOfOrient': WHATEVER THE INPUT: true; the input reads as it did. -/
def fnExactDivisorOfOrientSpec : ChangeSpec := { name := "fnExactDivisorOfOrient", fn := fun _ => fun
  | [d1, d2] => { results := [.lit (.bool true)], args := [d1, d2] }
  | _ => none }
def fnExactDivisorOfOrientRow : OpenClaim := { program := "ytmneechdepaibaa", sum := "12d7a805da29dd130243972155b97aa16eb395964f8803360518e84b116c7c66", func := "loop.example/g00841/laws.FnExactDivisorOfOrient", spec := "fnExactDivisorOfOrient", unfollowed := true, recurses := true, apart := false }
def FnExactDivisorOfOrientSaid : Prop := fnExactDivisorOfOrientRow.holds Try.pinned (OpenSpec.ofChange fnExactDivisorOfOrientSpec)

/-- ITS FALSE NEIGHBOUR: 'it returns false'. Refute it at one input. -/
def fnExactDivisorOfOrientWrong : ChangeSpec := { name := "fnExactDivisorOfOrient", fn := fun _ => fun
  | [d1, d2] => { results := [.lit (.bool false)], args := [d1, d2] }
  | _ => none }
def FnExactDivisorOfOrientWrongFalsely : Prop := fnExactDivisorOfOrientRow.holds Try.pinned (OpenSpec.ofChange fnExactDivisorOfOrientWrong)

/-- 'laws.FnExactStepWalker': WHATEVER THE INPUT: true; the input reads as it did. -/
def fnExactStepWalkerSpec : ChangeSpec := { name := "fnExactStepWalker", fn := fun _ => fun
  | [d1, d2, d3, d4] => { results := [.lit (.bool true)], args := [d1, d2, d3, d4] }
  | _ => none }
def fnExactStepWalkerRow : OpenClaim := { program := "ytmneechdepaibaa", sum := "12d7a805da29dd130243972155b97aa16eb395964f8803360518e84b116c7c66", func := "loop.example/g00841/laws.FnExactStepWalker", spec := "fnExactStepWalker", unfollowed := true, recurses := true, apart := false }
def FnExactStepWalkerSaid : Prop := fnExactStepWalkerRow.holds Try.pinned (OpenSpec.ofChange fnExactStepWalkerSpec)

/-- ITS FALSE NEIGHBOUR: 'it returns false'. Refute it at one input. -/
def fnExactStepWalkerWrong : ChangeSpec := { name := "fnExactStepWalker", fn := fun _ => fun
  | [d1, d2, d3, d4] => { results := [.lit (.bool false)], args := [d1, d2, d3, d4] }
  | _ => none }
def FnExactStepWalkerWrongFalsely : Prop := fnExactStepWalkerRow.holds Try.pinned (OpenSpec.ofChange fnExactStepWalkerWrong)

/-- 'laws.FnExactBridgesOf': WHATEVER THE INPUT: true; the input reads as it did. -/
def fnExactBridgesOfSpec : ChangeSpec := { name := "fnExactBridgesOf", fn := fun _ => fun
  | [d] => { results := [.lit (.bool true)], args := [d] }
  | _ => none }
def fnExactBridgesOfRow : OpenClaim := { program := "ytmneechdepaibaa", sum := "12d7a805da29dd130243972155b97aa16eb395964f8803360518e84b116c7c66", func := "loop.example/g00841/laws.FnExactBridgesOf", spec := "fnExactBridgesOf", unfollowed := true, recurses := true, apart := false }
def FnExactBridgesOfSaid : Prop := fnExactBridgesOfRow.holds Try.pinned (OpenSpec.ofChange fnExactBridgesOfSpec)

/-- ITS FALSE NEIGHBOUR: 'it returns false'. Refute it at one input. -/
def fnExactBridgesOfWrong : ChangeSpec := { name := "fnExactBridgesOf", fn := fun _ => fun
  | [d] => { results := [.lit (.bool false)], args := [d] }
  | _ => none }
def FnExactBridgesOfWrongFalsely : Prop := fnExactBridgesOfRow.holds Try.pinned (OpenSpec.ofChange fnExactBridgesOfWrong)

/-- 'laws.FnExactWalkToSink': WHATEVER THE INPUT: true; the input reads as it did. -/
def fnExactWalkToSinkSpec : ChangeSpec := { name := "fnExactWalkToSink", fn := fun _ => fun
  | [d1, d2, d3, d4] => { results := [.lit (.bool true)], args := [d1, d2, d3, d4] }
  | _ => none }
def fnExactWalkToSinkRow : OpenClaim := { program := "ytmneechdepaibaa", sum := "12d7a805da29dd130243972155b97aa16eb395964f8803360518e84b116c7c66", func := "loop.example/g00841/laws.FnExactWalkToSink", spec := "fnExactWalkToSink", unfollowed := true, recurses := true, apart := false }
def FnExactWalkToSinkSaid : Prop := fnExactWalkToSinkRow.holds Try.pinned (OpenSpec.ofChange fnExactWalkToSinkSpec)

/-- ITS FALSE NEIGHBOUR: 'it returns false'. Refute it at one input. -/
def fnExactWalkToSinkWrong : ChangeSpec := { name := "fnExactWalkToSink", fn := fun _ => fun
  | [d1, d2, d3, d4] => { results := [.lit (.bool false)], args := [d1, d2, d3, d4] }
  | _ => none }
def FnExactWalkToSinkWrongFalsely : Prop := fnExactWalkToSinkRow.holds Try.pinned (OpenSpec.ofChange fnExactWalkToSinkWrong)

/-- 'laws.FnExactSourcesOf': WHATEVER THE INPUT: true; the input reads as it did. -/
def fnExactSourcesOfSpec : ChangeSpec := { name := "fnExactSourcesOf", fn := fun _ => fun
  | [d1, d2] => { results := [.lit (.bool true)], args := [d1, d2] }
  | _ => none }
def fnExactSourcesOfRow : OpenClaim := { program := "ytmneechdepaibaa", sum := "12d7a805da29dd130243972155b97aa16eb395964f8803360518e84b116c7c66", func := "loop.example/g00841/laws.FnExactSourcesOf", spec := "fnExactSourcesOf", unfollowed := true, recurses := true, apart := false }
def FnExactSourcesOfSaid : Prop := fnExactSourcesOfRow.holds Try.pinned (OpenSpec.ofChange fnExactSourcesOfSpec)

/-- ITS FALSE NEIGHBOUR: 'it returns false'. Refute it at one input. -/
def fnExactSourcesOfWrong : ChangeSpec := { name := "fnExactSourcesOf", fn := fun _ => fun
  | [d1, d2] => { results := [.lit (.bool false)], args := [d1, d2] }
  | _ => none }
def FnExactSourcesOfWrongFalsely : Prop := fnExactSourcesOfRow.holds Try.pinned (OpenSpec.ofChange fnExactSourcesOfWrong)

/- THE SECOND FORM. 'bulk': how many values and letters a reading holds, each counted each time it is reached (what is shared counts as often as it is met; a slice's spare places count too). A statement '..UptoSaid' is the law's where the arguments, and the package variables that the reading takes, are together of bulk at most 1048576: NARROWER than '..Said'. Prove '..Said' where nothing that the law and all that it calls make is longer than what came in: it says more and counts as full. Else prove '..UptoSaid'. A law counts once. -/
mutual
def uptoBulk {H : Type} : DataW H → Nat
  | .lit (.string bytes) => bytes.length + 1
  | .lit _ => 1
  | .nil => 1
  | .ptr d => uptoBulk d + 1
  | .slice elems spare => uptoBulkAll elems + uptoBulkAll spare + 1
  | .agg parts => uptoBulkAll parts + 1
  | .iface _ d => uptoBulk d + 1
  | .map entries => uptoBulkEntries entries + 1
  | .held _ => 1
def uptoBulkAll {H : Type} : List (DataW H) → Nat
  | [] => 0
  | d :: r => uptoBulk d + uptoBulkAll r
def uptoBulkEntries {H : Type} : List (Lit × DataW H) → Nat
  | [] => 0
  | x :: r => uptoBulkEntry x + uptoBulkEntries r
def uptoBulkEntry {H : Type} : Lit × DataW H → Nat
  | (.string bytes, d) => bytes.length + uptoBulk d + 1
  | (_, d) => uptoBulk d + 1
 end
def uptoSmall : (H : Type) → List (DataW H) → Bool := fun _ ds => decide (uptoBulkAll ds ≤ 1048576)
def OpenSpec.upto (s : _root_.Go.ChangeSpec) : _root_.Go.OpenSpec := { _root_.Go.OpenSpec.ofChange s with cond := some uptoSmall }

/-- 'laws.FnExactReverseOrient', WHERE WHAT IT READS IS OF BULK AT MOST 1048576: true; the input reads as it did. -/
def fnExactReverseOrientUptoRow : OpenClaim := { program := "ytmneechdepaibaa", sum := "12d7a805da29dd130243972155b97aa16eb395964f8803360518e84b116c7c66", func := "loop.example/g00841/laws.FnExactReverseOrient", spec := "fnExactReverseOrient", apart := false, narrowed := true }
def FnExactReverseOrientUptoSaid : Prop := fnExactReverseOrientUptoRow.holds Try.pinned (OpenSpec.upto fnExactReverseOrientSpec)

/-- 'laws.FnExactValueAt', WHERE WHAT IT READS IS OF BULK AT MOST 1048576: true; the input reads as it did. -/
def fnExactValueAtUptoRow : OpenClaim := { program := "ytmneechdepaibaa", sum := "12d7a805da29dd130243972155b97aa16eb395964f8803360518e84b116c7c66", func := "loop.example/g00841/laws.FnExactValueAt", spec := "fnExactValueAt", apart := false, narrowed := true }
def FnExactValueAtUptoSaid : Prop := fnExactValueAtUptoRow.holds Try.pinned (OpenSpec.upto fnExactValueAtSpec)

/-- 'laws.FnExactRowOfOne', WHERE WHAT IT READS IS OF BULK AT MOST 1048576: true; the input reads as it did. -/
def fnExactRowOfOneUptoRow : OpenClaim := { program := "ytmneechdepaibaa", sum := "12d7a805da29dd130243972155b97aa16eb395964f8803360518e84b116c7c66", func := "loop.example/g00841/laws.FnExactRowOfOne", spec := "fnExactRowOfOne", apart := false, narrowed := true }
def FnExactRowOfOneUptoSaid : Prop := fnExactRowOfOneUptoRow.holds Try.pinned (OpenSpec.upto fnExactRowOfOneSpec)

/-- 'laws.FnExactNextRotor', WHERE WHAT IT READS IS OF BULK AT MOST 1048576: true; the input reads as it did. -/
def fnExactNextRotorUptoRow : OpenClaim := { program := "ytmneechdepaibaa", sum := "12d7a805da29dd130243972155b97aa16eb395964f8803360518e84b116c7c66", func := "loop.example/g00841/laws.FnExactNextRotor", spec := "fnExactNextRotor", unfollowed := true, recurses := true, apart := false, narrowed := true }
def FnExactNextRotorUptoSaid : Prop := fnExactNextRotorUptoRow.holds Try.pinned (OpenSpec.upto fnExactNextRotorSpec)

/-- 'laws.FnExactOrientOk', WHERE WHAT IT READS IS OF BULK AT MOST 1048576: true; the input reads as it did. -/
def fnExactOrientOkUptoRow : OpenClaim := { program := "ytmneechdepaibaa", sum := "12d7a805da29dd130243972155b97aa16eb395964f8803360518e84b116c7c66", func := "loop.example/g00841/laws.FnExactOrientOk", spec := "fnExactOrientOk", unfollowed := true, recurses := true, apart := false, narrowed := true }
def FnExactOrientOkUptoSaid : Prop := fnExactOrientOkUptoRow.holds Try.pinned (OpenSpec.upto fnExactOrientOkSpec)

/-- 'laws.FnExactRotorsOk', WHERE WHAT IT READS IS OF BULK AT MOST 1048576: true; the input reads as it did. -/
def fnExactRotorsOkUptoRow : OpenClaim := { program := "ytmneechdepaibaa", sum := "12d7a805da29dd130243972155b97aa16eb395964f8803360518e84b116c7c66", func := "loop.example/g00841/laws.FnExactRotorsOk", spec := "fnExactRotorsOk", unfollowed := true, recurses := true, apart := false, narrowed := true }
def FnExactRotorsOkUptoSaid : Prop := fnExactRotorsOkUptoRow.holds Try.pinned (OpenSpec.upto fnExactRotorsOkSpec)

/-- 'laws.FnExactIsBridge', WHERE WHAT IT READS IS OF BULK AT MOST 1048576: true; the input reads as it did. -/
def fnExactIsBridgeUptoRow : OpenClaim := { program := "ytmneechdepaibaa", sum := "12d7a805da29dd130243972155b97aa16eb395964f8803360518e84b116c7c66", func := "loop.example/g00841/laws.FnExactIsBridge", spec := "fnExactIsBridge", unfollowed := true, recurses := true, apart := false, narrowed := true }
def FnExactIsBridgeUptoSaid : Prop := fnExactIsBridgeUptoRow.holds Try.pinned (OpenSpec.upto fnExactIsBridgeSpec)

/-- 'laws.FnRecurrent', WHERE WHAT IT READS IS OF BULK AT MOST 1048576: true; the input reads as it did. -/
def fnRecurrentUptoRow : OpenClaim := { program := "ytmneechdepaibaa", sum := "12d7a805da29dd130243972155b97aa16eb395964f8803360518e84b116c7c66", func := "loop.example/g00841/laws.FnRecurrent", spec := "fnRecurrent", unfollowed := true, recurses := true, apart := false, narrowed := true }
def FnRecurrentUptoSaid : Prop := fnRecurrentUptoRow.holds Try.pinned (OpenSpec.upto fnRecurrentSpec)

/-- 'laws.FnExactIsTree', WHERE WHAT IT READS IS OF BULK AT MOST 1048576: true; the input reads as it did. -/
def fnExactIsTreeUptoRow : OpenClaim := { program := "ytmneechdepaibaa", sum := "12d7a805da29dd130243972155b97aa16eb395964f8803360518e84b116c7c66", func := "loop.example/g00841/laws.FnExactIsTree", spec := "fnExactIsTree", unfollowed := true, recurses := true, apart := false, narrowed := true }
def FnExactIsTreeUptoSaid : Prop := fnExactIsTreeUptoRow.holds Try.pinned (OpenSpec.upto fnExactIsTreeSpec)

/-- 'laws.FnExactPileOk', WHERE WHAT IT READS IS OF BULK AT MOST 1048576: true; the input reads as it did. -/
def fnExactPileOkUptoRow : OpenClaim := { program := "ytmneechdepaibaa", sum := "12d7a805da29dd130243972155b97aa16eb395964f8803360518e84b116c7c66", func := "loop.example/g00841/laws.FnExactPileOk", spec := "fnExactPileOk", unfollowed := true, recurses := true, apart := false, narrowed := true }
def FnExactPileOkUptoSaid : Prop := fnExactPileOkUptoRow.holds Try.pinned (OpenSpec.upto fnExactPileOkSpec)

/-- 'laws.FnExactIsTreeState', WHERE WHAT IT READS IS OF BULK AT MOST 1048576: true; the input reads as it did. -/
def fnExactIsTreeStateUptoRow : OpenClaim := { program := "ytmneechdepaibaa", sum := "12d7a805da29dd130243972155b97aa16eb395964f8803360518e84b116c7c66", func := "loop.example/g00841/laws.FnExactIsTreeState", spec := "fnExactIsTreeState", unfollowed := true, recurses := true, apart := false, narrowed := true }
def FnExactIsTreeStateUptoSaid : Prop := fnExactIsTreeStateUptoRow.holds Try.pinned (OpenSpec.upto fnExactIsTreeStateSpec)

/-- 'laws.FnExactFullPile', WHERE WHAT IT READS IS OF BULK AT MOST 1048576: true; the input reads as it did. -/
def fnExactFullPileUptoRow : OpenClaim := { program := "ytmneechdepaibaa", sum := "12d7a805da29dd130243972155b97aa16eb395964f8803360518e84b116c7c66", func := "loop.example/g00841/laws.FnExactFullPile", spec := "fnExactFullPile", unfollowed := true, recurses := true, apart := false, narrowed := true }
def FnExactFullPileUptoSaid : Prop := fnExactFullPileUptoRow.holds Try.pinned (OpenSpec.upto fnExactFullPileSpec)

/-- 'laws.FnExactIsAcyclic', WHERE WHAT IT READS IS OF BULK AT MOST 1048576: true; the input reads as it did. -/
def fnExactIsAcyclicUptoRow : OpenClaim := { program := "ytmneechdepaibaa", sum := "12d7a805da29dd130243972155b97aa16eb395964f8803360518e84b116c7c66", func := "loop.example/g00841/laws.FnExactIsAcyclic", spec := "fnExactIsAcyclic", unfollowed := true, recurses := true, apart := false, narrowed := true }
def FnExactIsAcyclicUptoSaid : Prop := fnExactIsAcyclicUptoRow.holds Try.pinned (OpenSpec.upto fnExactIsAcyclicSpec)

/-- 'laws.FnExactIsStable', WHERE WHAT IT READS IS OF BULK AT MOST 1048576: true; the input reads as it did. -/
def fnExactIsStableUptoRow : OpenClaim := { program := "ytmneechdepaibaa", sum := "12d7a805da29dd130243972155b97aa16eb395964f8803360518e84b116c7c66", func := "loop.example/g00841/laws.FnExactIsStable", spec := "fnExactIsStable", unfollowed := true, recurses := true, apart := false, narrowed := true }
def FnExactIsStableUptoSaid : Prop := fnExactIsStableUptoRow.holds Try.pinned (OpenSpec.upto fnExactIsStableSpec)

/-- 'laws.FnParking', WHERE WHAT IT READS IS OF BULK AT MOST 1048576: true; the input reads as it did. -/
def fnParkingUptoRow : OpenClaim := { program := "ytmneechdepaibaa", sum := "12d7a805da29dd130243972155b97aa16eb395964f8803360518e84b116c7c66", func := "loop.example/g00841/laws.FnParking", spec := "fnParking", unfollowed := true, recurses := true, apart := false, narrowed := true }
def FnParkingUptoSaid : Prop := fnParkingUptoRow.holds Try.pinned (OpenSpec.upto fnParkingSpec)

/-- 'laws.FnExactDivisorOfOrient', WHERE WHAT IT READS IS OF BULK AT MOST 1048576: true; the input reads as it did. -/
def fnExactDivisorOfOrientUptoRow : OpenClaim := { program := "ytmneechdepaibaa", sum := "12d7a805da29dd130243972155b97aa16eb395964f8803360518e84b116c7c66", func := "loop.example/g00841/laws.FnExactDivisorOfOrient", spec := "fnExactDivisorOfOrient", unfollowed := true, recurses := true, apart := false, narrowed := true }
def FnExactDivisorOfOrientUptoSaid : Prop := fnExactDivisorOfOrientUptoRow.holds Try.pinned (OpenSpec.upto fnExactDivisorOfOrientSpec)

/-- 'laws.FnExactStepWalker', WHERE WHAT IT READS IS OF BULK AT MOST 1048576: true; the input reads as it did. -/
def fnExactStepWalkerUptoRow : OpenClaim := { program := "ytmneechdepaibaa", sum := "12d7a805da29dd130243972155b97aa16eb395964f8803360518e84b116c7c66", func := "loop.example/g00841/laws.FnExactStepWalker", spec := "fnExactStepWalker", unfollowed := true, recurses := true, apart := false, narrowed := true }
def FnExactStepWalkerUptoSaid : Prop := fnExactStepWalkerUptoRow.holds Try.pinned (OpenSpec.upto fnExactStepWalkerSpec)

/-- 'laws.FnExactBridgesOf', WHERE WHAT IT READS IS OF BULK AT MOST 1048576: true; the input reads as it did. -/
def fnExactBridgesOfUptoRow : OpenClaim := { program := "ytmneechdepaibaa", sum := "12d7a805da29dd130243972155b97aa16eb395964f8803360518e84b116c7c66", func := "loop.example/g00841/laws.FnExactBridgesOf", spec := "fnExactBridgesOf", unfollowed := true, recurses := true, apart := false, narrowed := true }
def FnExactBridgesOfUptoSaid : Prop := fnExactBridgesOfUptoRow.holds Try.pinned (OpenSpec.upto fnExactBridgesOfSpec)

/-- 'laws.FnExactWalkToSink', WHERE WHAT IT READS IS OF BULK AT MOST 1048576: true; the input reads as it did. -/
def fnExactWalkToSinkUptoRow : OpenClaim := { program := "ytmneechdepaibaa", sum := "12d7a805da29dd130243972155b97aa16eb395964f8803360518e84b116c7c66", func := "loop.example/g00841/laws.FnExactWalkToSink", spec := "fnExactWalkToSink", unfollowed := true, recurses := true, apart := false, narrowed := true }
def FnExactWalkToSinkUptoSaid : Prop := fnExactWalkToSinkUptoRow.holds Try.pinned (OpenSpec.upto fnExactWalkToSinkSpec)

/-- 'laws.FnExactSourcesOf', WHERE WHAT IT READS IS OF BULK AT MOST 1048576: true; the input reads as it did. -/
def fnExactSourcesOfUptoRow : OpenClaim := { program := "ytmneechdepaibaa", sum := "12d7a805da29dd130243972155b97aa16eb395964f8803360518e84b116c7c66", func := "loop.example/g00841/laws.FnExactSourcesOf", spec := "fnExactSourcesOf", unfollowed := true, recurses := true, apart := false, narrowed := true }
def FnExactSourcesOfUptoSaid : Prop := fnExactSourcesOfUptoRow.holds Try.pinned (OpenSpec.upto fnExactSourcesOfSpec)

end Rows
end Go.Proofs.Ytmneechdepaibaa
