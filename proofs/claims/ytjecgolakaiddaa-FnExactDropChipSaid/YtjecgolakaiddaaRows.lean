/-
  No cell of these rows narrows 'for every input' (looked for: loops, veiled, ifaces, maps, wideKeys, modest, calm, conditions, laid).
  DERIVED. THE GIVEN ROWS OF THIS SEAT. 29 by the template 'for every input the law returns true; each argument reads behind the call as it read before'; 0 by the template 'total and deterministic' (their statements: YtjecgolakaiddaaTotals.lean).
  GIVEN WITH THE SEED: the statements are not yours to turn. If you find one false, say at which input.
  Laid BY PROGRAM, IN A SANDBOX (cutbox-rows.mjs): the forced cells as the released guide's own fill.sh prints them over the translation 13b0401254b95ef0… (all of the seat's roots in one cut). By AI agents, Wed Nov 11 2026. No macro, syntax, notation, axiom, sorry.
-/
import Derived.Test.YtjecgolakaiddaaChecked
import GoSem.Claim
import GoSem.ClaimJoined
import GoSem.ClaimMapViews
import Derived.JoinedTies
import Derived.KernelRfl
namespace Go.Proofs.Ytjecgolakaiddaa
/- THE CELL 'sum', in the pinned program and in every row, IS THE sha256 OF THE DUMP (.gsa) THAT YtjecgolakaiddaaProg.lean LOADS. Nothing in Lean hashes anything: it is a label: what it is worth is what the hold of that sum in a sandbox is worth. -/
noncomputable def Try.pinned : Pinned := { name := "ytjecgolakaiddaa", sum := "13b0401254b95ef0ab9f8bc87c90d70821c48eedd5a9f69169fdf54ff0d4e867", checked := Try.checked }
namespace Rows
def none {H : Type} : Left H := { results := [], args := [] }

/-- 'laws.FnExactRowOfOne': WHATEVER THE INPUT: true; the input reads as it did. -/
def fnExactRowOfOneSpec : ChangeSpec := { name := "fnExactRowOfOne", fn := fun _ => fun
  | [d] => { results := [.lit (.bool true)], args := [d] }
  | _ => none }
def fnExactRowOfOneRow : OpenClaim := { program := "ytjecgolakaiddaa", sum := "13b0401254b95ef0ab9f8bc87c90d70821c48eedd5a9f69169fdf54ff0d4e867", func := "loop.example/g00841/laws.FnExactRowOfOne", spec := "fnExactRowOfOne", apart := false }
def FnExactRowOfOneSaid : Prop := fnExactRowOfOneRow.holds Try.pinned (OpenSpec.ofChange fnExactRowOfOneSpec)

/-- ITS FALSE NEIGHBOUR: 'it returns false'. Refute it at one input. -/
def fnExactRowOfOneWrong : ChangeSpec := { name := "fnExactRowOfOne", fn := fun _ => fun
  | [d] => { results := [.lit (.bool false)], args := [d] }
  | _ => none }
def FnExactRowOfOneWrongFalsely : Prop := fnExactRowOfOneRow.holds Try.pinned (OpenSpec.ofChange fnExactRowOfOneWrong)

/-- 'laws.FnExactIsTreeState': WHATEVER THE INPUT: true; the input reads as it did. -/
def fnExactIsTreeStateSpec : ChangeSpec := { name := "fnExactIsTreeState", fn := fun _ => fun
  | [d1, d2, d3] => { results := [.lit (.bool true)], args := [d1, d2, d3] }
  | _ => none }
def fnExactIsTreeStateRow : OpenClaim := { program := "ytjecgolakaiddaa", sum := "13b0401254b95ef0ab9f8bc87c90d70821c48eedd5a9f69169fdf54ff0d4e867", func := "loop.example/g00841/laws.FnExactIsTreeState", spec := "fnExactIsTreeState", unfollowed := true, recurses := true, apart := false }
def FnExactIsTreeStateSaid : Prop := fnExactIsTreeStateRow.holds Try.pinned (OpenSpec.ofChange fnExactIsTreeStateSpec)

/-- ITS FALSE NEIGHBOUR: 'it returns false'. Refute it at one input. -/
def fnExactIsTreeStateWrong : ChangeSpec := { name := "fnExactIsTreeState", fn := fun _ => fun
  | [d1, d2, d3] => { results := [.lit (.bool false)], args := [d1, d2, d3] }
  | _ => none }
def FnExactIsTreeStateWrongFalsely : Prop := fnExactIsTreeStateRow.holds Try.pinned (OpenSpec.ofChange fnExactIsTreeStateWrong)

/-- 'laws.FnExactFullPile': WHATEVER THE INPUT: true; the input reads as it did. -/
def fnExactFullPileSpec : ChangeSpec := { name := "fnExactFullPile", fn := fun _ => fun
  | [d1, d2] => { results := [.lit (.bool true)], args := [d1, d2] }
  | _ => none }
def fnExactFullPileRow : OpenClaim := { program := "ytjecgolakaiddaa", sum := "13b0401254b95ef0ab9f8bc87c90d70821c48eedd5a9f69169fdf54ff0d4e867", func := "loop.example/g00841/laws.FnExactFullPile", spec := "fnExactFullPile", unfollowed := true, recurses := true, apart := false }
def FnExactFullPileSaid : Prop := fnExactFullPileRow.holds Try.pinned (OpenSpec.ofChange fnExactFullPileSpec)

/-- ITS FALSE NEIGHBOUR: 'it returns false'. Refute it at one input. -/
def fnExactFullPileWrong : ChangeSpec := { name := "fnExactFullPile", fn := fun _ => fun
  | [d1, d2] => { results := [.lit (.bool false)], args := [d1, d2] }
  | _ => none }
def FnExactFullPileWrongFalsely : Prop := fnExactFullPileRow.holds Try.pinned (OpenSpec.ofChange fnExactFullPileWrong)

/-- 'laws.FnExactIsAcyclic': WHATEVER THE INPUT: true; the input reads as it did. -/
def fnExactIsAcyclicSpec : ChangeSpec := { name := "fnExactIsAcyclic", fn := fun _ => fun
  | [d1, d2] => { results := [.lit (.bool true)], args := [d1, d2] }
  | _ => none }
def fnExactIsAcyclicRow : OpenClaim := { program := "ytjecgolakaiddaa", sum := "13b0401254b95ef0ab9f8bc87c90d70821c48eedd5a9f69169fdf54ff0d4e867", func := "loop.example/g00841/laws.FnExactIsAcyclic", spec := "fnExactIsAcyclic", unfollowed := true, recurses := true, apart := false }
def FnExactIsAcyclicSaid : Prop := fnExactIsAcyclicRow.holds Try.pinned (OpenSpec.ofChange fnExactIsAcyclicSpec)

/-- ITS FALSE NEIGHBOUR: 'it returns false'. Refute it at one input. -/
def fnExactIsAcyclicWrong : ChangeSpec := { name := "fnExactIsAcyclic", fn := fun _ => fun
  | [d1, d2] => { results := [.lit (.bool false)], args := [d1, d2] }
  | _ => none }
def FnExactIsAcyclicWrongFalsely : Prop := fnExactIsAcyclicRow.holds Try.pinned (OpenSpec.ofChange fnExactIsAcyclicWrong)

/-- 'laws.FnExactDivisorOfOrient': WHATEVER THE INPUT: true; the input reads as it did. -/
def fnExactDivisorOfOrientSpec : ChangeSpec := { name := "fnExactDivisorOfOrient", fn := fun _ => fun
  | [d1, d2] => { results := [.lit (.bool true)], args := [d1, d2] }
  | _ => none }
def fnExactDivisorOfOrientRow : OpenClaim := { program := "ytjecgolakaiddaa", sum := "13b0401254b95ef0ab9f8bc87c90d70821c48eedd5a9f69169fdf54ff0d4e867", func := "loop.example/g00841/laws.FnExactDivisorOfOrient", spec := "fnExactDivisorOfOrient", unfollowed := true, recurses := true, apart := false }
def FnExactDivisorOfOrientSaid : Prop := fnExactDivisorOfOrientRow.holds Try.pinned (OpenSpec.ofChange fnExactDivisorOfOrientSpec)

/-- ITS FALSE NEIGHBOUR: 'it returns false'. Refute it at one input. -/
def fnExactDivisorOfOrientWrong : ChangeSpec := { name := "fnExactDivisorOfOrient", fn := fun _ => fun
  | [d1, d2] => { results := [.lit (.bool false)], args := [d1, d2] }
  | _ => none }
def FnExactDivisorOfOrientWrongFalsely : Prop := fnExactDivisorOfOrientRow.holds Try.pinned (OpenSpec.ofChange fnExactDivisorOfOrientWrong)

/-- 'laws.FnExactStepWalker': WHATEVER THE INPUT: true; the input reads as it did. -/
def fnExactStepWalkerSpec : ChangeSpec := { name := "fnExactStepWalker", fn := fun _ => fun
  | [d1, d2, d3, d4] => { results := [.lit (.bool true)], args := [d1, d2, d3, d4] }
  | _ => none }
def fnExactStepWalkerRow : OpenClaim := { program := "ytjecgolakaiddaa", sum := "13b0401254b95ef0ab9f8bc87c90d70821c48eedd5a9f69169fdf54ff0d4e867", func := "loop.example/g00841/laws.FnExactStepWalker", spec := "fnExactStepWalker", unfollowed := true, recurses := true, apart := false }
def FnExactStepWalkerSaid : Prop := fnExactStepWalkerRow.holds Try.pinned (OpenSpec.ofChange fnExactStepWalkerSpec)

/-- ITS FALSE NEIGHBOUR: 'it returns false'. Refute it at one input. -/
def fnExactStepWalkerWrong : ChangeSpec := { name := "fnExactStepWalker", fn := fun _ => fun
  | [d1, d2, d3, d4] => { results := [.lit (.bool false)], args := [d1, d2, d3, d4] }
  | _ => none }
def FnExactStepWalkerWrongFalsely : Prop := fnExactStepWalkerRow.holds Try.pinned (OpenSpec.ofChange fnExactStepWalkerWrong)

/-- 'laws.FnExactWalkToSink': WHATEVER THE INPUT: true; the input reads as it did. -/
def fnExactWalkToSinkSpec : ChangeSpec := { name := "fnExactWalkToSink", fn := fun _ => fun
  | [d1, d2, d3, d4] => { results := [.lit (.bool true)], args := [d1, d2, d3, d4] }
  | _ => none }
def fnExactWalkToSinkRow : OpenClaim := { program := "ytjecgolakaiddaa", sum := "13b0401254b95ef0ab9f8bc87c90d70821c48eedd5a9f69169fdf54ff0d4e867", func := "loop.example/g00841/laws.FnExactWalkToSink", spec := "fnExactWalkToSink", unfollowed := true, recurses := true, apart := false }
def FnExactWalkToSinkSaid : Prop := fnExactWalkToSinkRow.holds Try.pinned (OpenSpec.ofChange fnExactWalkToSinkSpec)

/-- ITS FALSE NEIGHBOUR: 'it returns false'. Refute it at one input. -/
def fnExactWalkToSinkWrong : ChangeSpec := { name := "fnExactWalkToSink", fn := fun _ => fun
  | [d1, d2, d3, d4] => { results := [.lit (.bool false)], args := [d1, d2, d3, d4] }
  | _ => none }
def FnExactWalkToSinkWrongFalsely : Prop := fnExactWalkToSinkRow.holds Try.pinned (OpenSpec.ofChange fnExactWalkToSinkWrong)

/-- 'laws.FnExactSourcesOf': WHATEVER THE INPUT: true; the input reads as it did. -/
def fnExactSourcesOfSpec : ChangeSpec := { name := "fnExactSourcesOf", fn := fun _ => fun
  | [d1, d2] => { results := [.lit (.bool true)], args := [d1, d2] }
  | _ => none }
def fnExactSourcesOfRow : OpenClaim := { program := "ytjecgolakaiddaa", sum := "13b0401254b95ef0ab9f8bc87c90d70821c48eedd5a9f69169fdf54ff0d4e867", func := "loop.example/g00841/laws.FnExactSourcesOf", spec := "fnExactSourcesOf", unfollowed := true, recurses := true, apart := false }
def FnExactSourcesOfSaid : Prop := fnExactSourcesOfRow.holds Try.pinned (OpenSpec.ofChange fnExactSourcesOfSpec)

/-- ITS FALSE NEIGHBOUR: 'it returns false'. Refute it at one input. -/
def fnExactSourcesOfWrong : ChangeSpec := { name := "fnExactSourcesOf", fn := fun _ => fun
  | [d1, d2] => { results := [.lit (.bool false)], args := [d1, d2] }
  | _ => none }
def FnExactSourcesOfWrongFalsely : Prop := fnExactSourcesOfRow.holds Try.pinned (OpenSpec.ofChange fnExactSourcesOfWrong)

/-- 'laws.FnExactStateOfTree': WHATEVER THE INPUT: true; the input reads as it did. -/
def fnExactStateOfTreeSpec : ChangeSpec := { name := "fnExactStateOfTree", fn := fun _ => fun
  | [d1, d2, d3] => { results := [.lit (.bool true)], args := [d1, d2, d3] }
  | _ => none }
def fnExactStateOfTreeRow : OpenClaim := { program := "ytjecgolakaiddaa", sum := "13b0401254b95ef0ab9f8bc87c90d70821c48eedd5a9f69169fdf54ff0d4e867", func := "loop.example/g00841/laws.FnExactStateOfTree", spec := "fnExactStateOfTree", unfollowed := true, recurses := true, apart := false }
def FnExactStateOfTreeSaid : Prop := fnExactStateOfTreeRow.holds Try.pinned (OpenSpec.ofChange fnExactStateOfTreeSpec)

/-- ITS FALSE NEIGHBOUR: 'it returns false'. Refute it at one input. -/
def fnExactStateOfTreeWrong : ChangeSpec := { name := "fnExactStateOfTree", fn := fun _ => fun
  | [d1, d2, d3] => { results := [.lit (.bool false)], args := [d1, d2, d3] }
  | _ => none }
def FnExactStateOfTreeWrongFalsely : Prop := fnExactStateOfTreeRow.holds Try.pinned (OpenSpec.ofChange fnExactStateOfTreeWrong)

/-- 'laws.FnExactIsParking': WHATEVER THE INPUT: true; the input reads as it did. -/
def fnExactIsParkingSpec : ChangeSpec := { name := "fnExactIsParking", fn := fun _ => fun
  | [d1, d2, d3] => { results := [.lit (.bool true)], args := [d1, d2, d3] }
  | _ => none }
def fnExactIsParkingRow : OpenClaim := { program := "ytjecgolakaiddaa", sum := "13b0401254b95ef0ab9f8bc87c90d70821c48eedd5a9f69169fdf54ff0d4e867", func := "loop.example/g00841/laws.FnExactIsParking", spec := "fnExactIsParking", unfollowed := true, recurses := true, apart := false }
def FnExactIsParkingSaid : Prop := fnExactIsParkingRow.holds Try.pinned (OpenSpec.ofChange fnExactIsParkingSpec)

/-- ITS FALSE NEIGHBOUR: 'it returns false'. Refute it at one input. -/
def fnExactIsParkingWrong : ChangeSpec := { name := "fnExactIsParking", fn := fun _ => fun
  | [d1, d2, d3] => { results := [.lit (.bool false)], args := [d1, d2, d3] }
  | _ => none }
def FnExactIsParkingWrongFalsely : Prop := fnExactIsParkingRow.holds Try.pinned (OpenSpec.ofChange fnExactIsParkingWrong)

/-- 'laws.FnExactTopple': WHATEVER THE INPUT: true; the input reads as it did. -/
def fnExactToppleSpec : ChangeSpec := { name := "fnExactTopple", fn := fun _ => fun
  | [d1, d2, d3, d4] => { results := [.lit (.bool true)], args := [d1, d2, d3, d4] }
  | _ => none }
def fnExactToppleRow : OpenClaim := { program := "ytjecgolakaiddaa", sum := "13b0401254b95ef0ab9f8bc87c90d70821c48eedd5a9f69169fdf54ff0d4e867", func := "loop.example/g00841/laws.FnExactTopple", spec := "fnExactTopple", unfollowed := true, recurses := true, apart := false }
def FnExactToppleSaid : Prop := fnExactToppleRow.holds Try.pinned (OpenSpec.ofChange fnExactToppleSpec)

/-- ITS FALSE NEIGHBOUR: 'it returns false'. Refute it at one input. -/
def fnExactToppleWrong : ChangeSpec := { name := "fnExactTopple", fn := fun _ => fun
  | [d1, d2, d3, d4] => { results := [.lit (.bool false)], args := [d1, d2, d3, d4] }
  | _ => none }
def FnExactToppleWrongFalsely : Prop := fnExactToppleRow.holds Try.pinned (OpenSpec.ofChange fnExactToppleWrong)

/-- 'laws.FnExactFlipSource': WHATEVER THE INPUT: true; the input reads as it did. -/
def fnExactFlipSourceSpec : ChangeSpec := { name := "fnExactFlipSource", fn := fun _ => fun
  | [d1, d2, d3] => { results := [.lit (.bool true)], args := [d1, d2, d3] }
  | _ => none }
def fnExactFlipSourceRow : OpenClaim := { program := "ytjecgolakaiddaa", sum := "13b0401254b95ef0ab9f8bc87c90d70821c48eedd5a9f69169fdf54ff0d4e867", func := "loop.example/g00841/laws.FnExactFlipSource", spec := "fnExactFlipSource", unfollowed := true, recurses := true, apart := false }
def FnExactFlipSourceSaid : Prop := fnExactFlipSourceRow.holds Try.pinned (OpenSpec.ofChange fnExactFlipSourceSpec)

/-- ITS FALSE NEIGHBOUR: 'it returns false'. Refute it at one input. -/
def fnExactFlipSourceWrong : ChangeSpec := { name := "fnExactFlipSource", fn := fun _ => fun
  | [d1, d2, d3] => { results := [.lit (.bool false)], args := [d1, d2, d3] }
  | _ => none }
def FnExactFlipSourceWrongFalsely : Prop := fnExactFlipSourceRow.holds Try.pinned (OpenSpec.ofChange fnExactFlipSourceWrong)

/-- 'laws.FnExactCountAcyclic': WHATEVER THE INPUT: true; the input reads as it did. -/
def fnExactCountAcyclicSpec : ChangeSpec := { name := "fnExactCountAcyclic", fn := fun _ => fun
  | [d1, d2] => { results := [.lit (.bool true)], args := [d1, d2] }
  | _ => none }
def fnExactCountAcyclicRow : OpenClaim := { program := "ytjecgolakaiddaa", sum := "13b0401254b95ef0ab9f8bc87c90d70821c48eedd5a9f69169fdf54ff0d4e867", func := "loop.example/g00841/laws.FnExactCountAcyclic", spec := "fnExactCountAcyclic", unfollowed := true, recurses := true, apart := false }
def FnExactCountAcyclicSaid : Prop := fnExactCountAcyclicRow.holds Try.pinned (OpenSpec.ofChange fnExactCountAcyclicSpec)

/-- ITS FALSE NEIGHBOUR: 'it returns false'. Refute it at one input. -/
def fnExactCountAcyclicWrong : ChangeSpec := { name := "fnExactCountAcyclic", fn := fun _ => fun
  | [d1, d2] => { results := [.lit (.bool false)], args := [d1, d2] }
  | _ => none }
def FnExactCountAcyclicWrongFalsely : Prop := fnExactCountAcyclicRow.holds Try.pinned (OpenSpec.ofChange fnExactCountAcyclicWrong)

/-- 'laws.FnExactAvalancheSize': WHATEVER THE INPUT: true; the input reads as it did. -/
def fnExactAvalancheSizeSpec : ChangeSpec := { name := "fnExactAvalancheSize", fn := fun _ => fun
  | [d1, d2, d3] => { results := [.lit (.bool true)], args := [d1, d2, d3] }
  | _ => none }
def fnExactAvalancheSizeRow : OpenClaim := { program := "ytjecgolakaiddaa", sum := "13b0401254b95ef0ab9f8bc87c90d70821c48eedd5a9f69169fdf54ff0d4e867", func := "loop.example/g00841/laws.FnExactAvalancheSize", spec := "fnExactAvalancheSize", unfollowed := true, recurses := true, apart := false }
def FnExactAvalancheSizeSaid : Prop := fnExactAvalancheSizeRow.holds Try.pinned (OpenSpec.ofChange fnExactAvalancheSizeSpec)

/-- ITS FALSE NEIGHBOUR: 'it returns false'. Refute it at one input. -/
def fnExactAvalancheSizeWrong : ChangeSpec := { name := "fnExactAvalancheSize", fn := fun _ => fun
  | [d1, d2, d3] => { results := [.lit (.bool false)], args := [d1, d2, d3] }
  | _ => none }
def FnExactAvalancheSizeWrongFalsely : Prop := fnExactAvalancheSizeRow.holds Try.pinned (OpenSpec.ofChange fnExactAvalancheSizeWrong)

/-- 'laws.FnExactStabilize': WHATEVER THE INPUT: true; the input reads as it did. -/
def fnExactStabilizeSpec : ChangeSpec := { name := "fnExactStabilize", fn := fun _ => fun
  | [d1, d2, d3] => { results := [.lit (.bool true)], args := [d1, d2, d3] }
  | _ => none }
def fnExactStabilizeRow : OpenClaim := { program := "ytjecgolakaiddaa", sum := "13b0401254b95ef0ab9f8bc87c90d70821c48eedd5a9f69169fdf54ff0d4e867", func := "loop.example/g00841/laws.FnExactStabilize", spec := "fnExactStabilize", unfollowed := true, recurses := true, apart := false }
def FnExactStabilizeSaid : Prop := fnExactStabilizeRow.holds Try.pinned (OpenSpec.ofChange fnExactStabilizeSpec)

/-- ITS FALSE NEIGHBOUR: 'it returns false'. Refute it at one input. -/
def fnExactStabilizeWrong : ChangeSpec := { name := "fnExactStabilize", fn := fun _ => fun
  | [d1, d2, d3] => { results := [.lit (.bool false)], args := [d1, d2, d3] }
  | _ => none }
def FnExactStabilizeWrongFalsely : Prop := fnExactStabilizeRow.holds Try.pinned (OpenSpec.ofChange fnExactStabilizeWrong)

/-- 'laws.FnExactOrientByBurning': WHATEVER THE INPUT: true; the input reads as it did. -/
def fnExactOrientByBurningSpec : ChangeSpec := { name := "fnExactOrientByBurning", fn := fun _ => fun
  | [d1, d2, d3] => { results := [.lit (.bool true)], args := [d1, d2, d3] }
  | _ => none }
def fnExactOrientByBurningRow : OpenClaim := { program := "ytjecgolakaiddaa", sum := "13b0401254b95ef0ab9f8bc87c90d70821c48eedd5a9f69169fdf54ff0d4e867", func := "loop.example/g00841/laws.FnExactOrientByBurning", spec := "fnExactOrientByBurning", unfollowed := true, recurses := true, apart := false }
def FnExactOrientByBurningSaid : Prop := fnExactOrientByBurningRow.holds Try.pinned (OpenSpec.ofChange fnExactOrientByBurningSpec)

/-- ITS FALSE NEIGHBOUR: 'it returns false'. Refute it at one input. -/
def fnExactOrientByBurningWrong : ChangeSpec := { name := "fnExactOrientByBurning", fn := fun _ => fun
  | [d1, d2, d3] => { results := [.lit (.bool false)], args := [d1, d2, d3] }
  | _ => none }
def FnExactOrientByBurningWrongFalsely : Prop := fnExactOrientByBurningRow.holds Try.pinned (OpenSpec.ofChange fnExactOrientByBurningWrong)

/-- 'laws.FnExactSumOfPiles': WHATEVER THE INPUT: true; the input reads as it did. -/
def fnExactSumOfPilesSpec : ChangeSpec := { name := "fnExactSumOfPiles", fn := fun _ => fun
  | [d1, d2, d3, d4] => { results := [.lit (.bool true)], args := [d1, d2, d3, d4] }
  | _ => none }
def fnExactSumOfPilesRow : OpenClaim := { program := "ytjecgolakaiddaa", sum := "13b0401254b95ef0ab9f8bc87c90d70821c48eedd5a9f69169fdf54ff0d4e867", func := "loop.example/g00841/laws.FnExactSumOfPiles", spec := "fnExactSumOfPiles", unfollowed := true, recurses := true, apart := false }
def FnExactSumOfPilesSaid : Prop := fnExactSumOfPilesRow.holds Try.pinned (OpenSpec.ofChange fnExactSumOfPilesSpec)

/-- ITS FALSE NEIGHBOUR: 'it returns false'. Refute it at one input. -/
def fnExactSumOfPilesWrong : ChangeSpec := { name := "fnExactSumOfPiles", fn := fun _ => fun
  | [d1, d2, d3, d4] => { results := [.lit (.bool false)], args := [d1, d2, d3, d4] }
  | _ => none }
def FnExactSumOfPilesWrongFalsely : Prop := fnExactSumOfPilesRow.holds Try.pinned (OpenSpec.ofChange fnExactSumOfPilesWrong)

/-- 'laws.FnExactIsRecurrent': WHATEVER THE INPUT: true; the input reads as it did. -/
def fnExactIsRecurrentSpec : ChangeSpec := { name := "fnExactIsRecurrent", fn := fun _ => fun
  | [d1, d2, d3] => { results := [.lit (.bool true)], args := [d1, d2, d3] }
  | _ => none }
def fnExactIsRecurrentRow : OpenClaim := { program := "ytjecgolakaiddaa", sum := "13b0401254b95ef0ab9f8bc87c90d70821c48eedd5a9f69169fdf54ff0d4e867", func := "loop.example/g00841/laws.FnExactIsRecurrent", spec := "fnExactIsRecurrent", unfollowed := true, recurses := true, apart := false }
def FnExactIsRecurrentSaid : Prop := fnExactIsRecurrentRow.holds Try.pinned (OpenSpec.ofChange fnExactIsRecurrentSpec)

/-- ITS FALSE NEIGHBOUR: 'it returns false'. Refute it at one input. -/
def fnExactIsRecurrentWrong : ChangeSpec := { name := "fnExactIsRecurrent", fn := fun _ => fun
  | [d1, d2, d3] => { results := [.lit (.bool false)], args := [d1, d2, d3] }
  | _ => none }
def FnExactIsRecurrentWrongFalsely : Prop := fnExactIsRecurrentRow.holds Try.pinned (OpenSpec.ofChange fnExactIsRecurrentWrong)

/-- 'laws.FnExactDropChip': WHATEVER THE INPUT: true; the input reads as it did. -/
def fnExactDropChipSpec : ChangeSpec := { name := "fnExactDropChip", fn := fun _ => fun
  | [d1, d2, d3, d4] => { results := [.lit (.bool true)], args := [d1, d2, d3, d4] }
  | _ => none }
def fnExactDropChipRow : OpenClaim := { program := "ytjecgolakaiddaa", sum := "13b0401254b95ef0ab9f8bc87c90d70821c48eedd5a9f69169fdf54ff0d4e867", func := "loop.example/g00841/laws.FnExactDropChip", spec := "fnExactDropChip", unfollowed := true, recurses := true, apart := false }
def FnExactDropChipSaid : Prop := fnExactDropChipRow.holds Try.pinned (OpenSpec.ofChange fnExactDropChipSpec)

/-- ITS FALSE NEIGHBOUR: 'it returns false'. Refute it at one input. -/
def fnExactDropChipWrong : ChangeSpec := { name := "fnExactDropChip", fn := fun _ => fun
  | [d1, d2, d3, d4] => { results := [.lit (.bool false)], args := [d1, d2, d3, d4] }
  | _ => none }
def FnExactDropChipWrongFalsely : Prop := fnExactDropChipRow.holds Try.pinned (OpenSpec.ofChange fnExactDropChipWrong)

/-- 'laws.FnExactLevelOf': WHATEVER THE INPUT: true; the input reads as it did. -/
def fnExactLevelOfSpec : ChangeSpec := { name := "fnExactLevelOf", fn := fun _ => fun
  | [d1, d2, d3] => { results := [.lit (.bool true)], args := [d1, d2, d3] }
  | _ => none }
def fnExactLevelOfRow : OpenClaim := { program := "ytjecgolakaiddaa", sum := "13b0401254b95ef0ab9f8bc87c90d70821c48eedd5a9f69169fdf54ff0d4e867", func := "loop.example/g00841/laws.FnExactLevelOf", spec := "fnExactLevelOf", unfollowed := true, recurses := true, apart := false }
def FnExactLevelOfSaid : Prop := fnExactLevelOfRow.holds Try.pinned (OpenSpec.ofChange fnExactLevelOfSpec)

/-- ITS FALSE NEIGHBOUR: 'it returns false'. Refute it at one input. -/
def fnExactLevelOfWrong : ChangeSpec := { name := "fnExactLevelOf", fn := fun _ => fun
  | [d1, d2, d3] => { results := [.lit (.bool false)], args := [d1, d2, d3] }
  | _ => none }
def FnExactLevelOfWrongFalsely : Prop := fnExactLevelOfRow.holds Try.pinned (OpenSpec.ofChange fnExactLevelOfWrong)

/-- 'laws.FnExactPileOfParking': WHATEVER THE INPUT: true; the input reads as it did. -/
def fnExactPileOfParkingSpec : ChangeSpec := { name := "fnExactPileOfParking", fn := fun _ => fun
  | [d1, d2, d3] => { results := [.lit (.bool true)], args := [d1, d2, d3] }
  | _ => none }
def fnExactPileOfParkingRow : OpenClaim := { program := "ytjecgolakaiddaa", sum := "13b0401254b95ef0ab9f8bc87c90d70821c48eedd5a9f69169fdf54ff0d4e867", func := "loop.example/g00841/laws.FnExactPileOfParking", spec := "fnExactPileOfParking", unfollowed := true, recurses := true, apart := false }
def FnExactPileOfParkingSaid : Prop := fnExactPileOfParkingRow.holds Try.pinned (OpenSpec.ofChange fnExactPileOfParkingSpec)

/-- ITS FALSE NEIGHBOUR: 'it returns false'. Refute it at one input. -/
def fnExactPileOfParkingWrong : ChangeSpec := { name := "fnExactPileOfParking", fn := fun _ => fun
  | [d1, d2, d3] => { results := [.lit (.bool false)], args := [d1, d2, d3] }
  | _ => none }
def FnExactPileOfParkingWrongFalsely : Prop := fnExactPileOfParkingRow.holds Try.pinned (OpenSpec.ofChange fnExactPileOfParkingWrong)

/-- 'laws.FnExactOrderOf': WHATEVER THE INPUT: true; the input reads as it did. -/
def fnExactOrderOfSpec : ChangeSpec := { name := "fnExactOrderOf", fn := fun _ => fun
  | [d1, d2] => { results := [.lit (.bool true)], args := [d1, d2] }
  | _ => none }
def fnExactOrderOfRow : OpenClaim := { program := "ytjecgolakaiddaa", sum := "13b0401254b95ef0ab9f8bc87c90d70821c48eedd5a9f69169fdf54ff0d4e867", func := "loop.example/g00841/laws.FnExactOrderOf", spec := "fnExactOrderOf", unfollowed := true, recurses := true, apart := false }
def FnExactOrderOfSaid : Prop := fnExactOrderOfRow.holds Try.pinned (OpenSpec.ofChange fnExactOrderOfSpec)

/-- ITS FALSE NEIGHBOUR: 'it returns false'. Refute it at one input. -/
def fnExactOrderOfWrong : ChangeSpec := { name := "fnExactOrderOf", fn := fun _ => fun
  | [d1, d2] => { results := [.lit (.bool false)], args := [d1, d2] }
  | _ => none }
def FnExactOrderOfWrongFalsely : Prop := fnExactOrderOfRow.holds Try.pinned (OpenSpec.ofChange fnExactOrderOfWrong)

/-- 'laws.FnExactSumOfClasses': WHATEVER THE INPUT: true; the input reads as it did. -/
def fnExactSumOfClassesSpec : ChangeSpec := { name := "fnExactSumOfClasses", fn := fun _ => fun
  | [d1, d2, d3] => { results := [.lit (.bool true)], args := [d1, d2, d3] }
  | _ => none }
def fnExactSumOfClassesRow : OpenClaim := { program := "ytjecgolakaiddaa", sum := "13b0401254b95ef0ab9f8bc87c90d70821c48eedd5a9f69169fdf54ff0d4e867", func := "loop.example/g00841/laws.FnExactSumOfClasses", spec := "fnExactSumOfClasses", unfollowed := true, recurses := true, apart := false }
def FnExactSumOfClassesSaid : Prop := fnExactSumOfClassesRow.holds Try.pinned (OpenSpec.ofChange fnExactSumOfClassesSpec)

/-- ITS FALSE NEIGHBOUR: 'it returns false'. Refute it at one input. -/
def fnExactSumOfClassesWrong : ChangeSpec := { name := "fnExactSumOfClasses", fn := fun _ => fun
  | [d1, d2, d3] => { results := [.lit (.bool false)], args := [d1, d2, d3] }
  | _ => none }
def FnExactSumOfClassesWrongFalsely : Prop := fnExactSumOfClassesRow.holds Try.pinned (OpenSpec.ofChange fnExactSumOfClassesWrong)

/-- 'laws.FnExactInverseClass': WHATEVER THE INPUT: true; the input reads as it did. -/
def fnExactInverseClassSpec : ChangeSpec := { name := "fnExactInverseClass", fn := fun _ => fun
  | [d1, d2] => { results := [.lit (.bool true)], args := [d1, d2] }
  | _ => none }
def fnExactInverseClassRow : OpenClaim := { program := "ytjecgolakaiddaa", sum := "13b0401254b95ef0ab9f8bc87c90d70821c48eedd5a9f69169fdf54ff0d4e867", func := "loop.example/g00841/laws.FnExactInverseClass", spec := "fnExactInverseClass", unfollowed := true, recurses := true, apart := false }
def FnExactInverseClassSaid : Prop := fnExactInverseClassRow.holds Try.pinned (OpenSpec.ofChange fnExactInverseClassSpec)

/-- ITS FALSE NEIGHBOUR: 'it returns false'. Refute it at one input. -/
def fnExactInverseClassWrong : ChangeSpec := { name := "fnExactInverseClass", fn := fun _ => fun
  | [d1, d2] => { results := [.lit (.bool false)], args := [d1, d2] }
  | _ => none }
def FnExactInverseClassWrongFalsely : Prop := fnExactInverseClassRow.holds Try.pinned (OpenSpec.ofChange fnExactInverseClassWrong)

/-- 'laws.FnExactIdentityPile': WHATEVER THE INPUT: true; the input reads as it did. -/
def fnExactIdentityPileSpec : ChangeSpec := { name := "fnExactIdentityPile", fn := fun _ => fun
  | [d1, d2] => { results := [.lit (.bool true)], args := [d1, d2] }
  | _ => none }
def fnExactIdentityPileRow : OpenClaim := { program := "ytjecgolakaiddaa", sum := "13b0401254b95ef0ab9f8bc87c90d70821c48eedd5a9f69169fdf54ff0d4e867", func := "loop.example/g00841/laws.FnExactIdentityPile", spec := "fnExactIdentityPile", unfollowed := true, recurses := true, apart := false }
def FnExactIdentityPileSaid : Prop := fnExactIdentityPileRow.holds Try.pinned (OpenSpec.ofChange fnExactIdentityPileSpec)

/-- ITS FALSE NEIGHBOUR: 'it returns false'. Refute it at one input. -/
def fnExactIdentityPileWrong : ChangeSpec := { name := "fnExactIdentityPile", fn := fun _ => fun
  | [d1, d2] => { results := [.lit (.bool false)], args := [d1, d2] }
  | _ => none }
def FnExactIdentityPileWrongFalsely : Prop := fnExactIdentityPileRow.holds Try.pinned (OpenSpec.ofChange fnExactIdentityPileWrong)

/-- 'laws.FnExactParkingOfPile': WHATEVER THE INPUT: true; the input reads as it did. -/
def fnExactParkingOfPileSpec : ChangeSpec := { name := "fnExactParkingOfPile", fn := fun _ => fun
  | [d1, d2, d3] => { results := [.lit (.bool true)], args := [d1, d2, d3] }
  | _ => none }
def fnExactParkingOfPileRow : OpenClaim := { program := "ytjecgolakaiddaa", sum := "13b0401254b95ef0ab9f8bc87c90d70821c48eedd5a9f69169fdf54ff0d4e867", func := "loop.example/g00841/laws.FnExactParkingOfPile", spec := "fnExactParkingOfPile", unfollowed := true, recurses := true, apart := false }
def FnExactParkingOfPileSaid : Prop := fnExactParkingOfPileRow.holds Try.pinned (OpenSpec.ofChange fnExactParkingOfPileSpec)

/-- ITS FALSE NEIGHBOUR: 'it returns false'. Refute it at one input. -/
def fnExactParkingOfPileWrong : ChangeSpec := { name := "fnExactParkingOfPile", fn := fun _ => fun
  | [d1, d2, d3] => { results := [.lit (.bool false)], args := [d1, d2, d3] }
  | _ => none }
def FnExactParkingOfPileWrongFalsely : Prop := fnExactParkingOfPileRow.holds Try.pinned (OpenSpec.ofChange fnExactParkingOfPileWrong)

/-- 'laws.FnExactTimesClass': WHATEVER THE INPUT: true; the input reads as it did. -/
def fnExactTimesClassSpec : ChangeSpec := { name := "fnExactTimesClass", fn := fun _ => fun
  | [d1, d2, d3] => { results := [.lit (.bool true)], args := [d1, d2, d3] }
  | _ => none }
def fnExactTimesClassRow : OpenClaim := { program := "ytjecgolakaiddaa", sum := "13b0401254b95ef0ab9f8bc87c90d70821c48eedd5a9f69169fdf54ff0d4e867", func := "loop.example/g00841/laws.FnExactTimesClass", spec := "fnExactTimesClass", unfollowed := true, recurses := true, apart := false }
def FnExactTimesClassSaid : Prop := fnExactTimesClassRow.holds Try.pinned (OpenSpec.ofChange fnExactTimesClassSpec)

/-- ITS FALSE NEIGHBOUR: 'it returns false'. Refute it at one input. -/
def fnExactTimesClassWrong : ChangeSpec := { name := "fnExactTimesClass", fn := fun _ => fun
  | [d1, d2, d3] => { results := [.lit (.bool false)], args := [d1, d2, d3] }
  | _ => none }
def FnExactTimesClassWrongFalsely : Prop := fnExactTimesClassRow.holds Try.pinned (OpenSpec.ofChange fnExactTimesClassWrong)

/-- 'laws.FnExactRecurrentOf': WHATEVER THE INPUT: true; the input reads as it did. -/
def fnExactRecurrentOfSpec : ChangeSpec := { name := "fnExactRecurrentOf", fn := fun _ => fun
  | [d1, d2, d3] => { results := [.lit (.bool true)], args := [d1, d2, d3] }
  | _ => none }
def fnExactRecurrentOfRow : OpenClaim := { program := "ytjecgolakaiddaa", sum := "13b0401254b95ef0ab9f8bc87c90d70821c48eedd5a9f69169fdf54ff0d4e867", func := "loop.example/g00841/laws.FnExactRecurrentOf", spec := "fnExactRecurrentOf", unfollowed := true, recurses := true, apart := false }
def FnExactRecurrentOfSaid : Prop := fnExactRecurrentOfRow.holds Try.pinned (OpenSpec.ofChange fnExactRecurrentOfSpec)

/-- ITS FALSE NEIGHBOUR: 'it returns false'. Refute it at one input. -/
def fnExactRecurrentOfWrong : ChangeSpec := { name := "fnExactRecurrentOf", fn := fun _ => fun
  | [d1, d2, d3] => { results := [.lit (.bool false)], args := [d1, d2, d3] }
  | _ => none }
def FnExactRecurrentOfWrongFalsely : Prop := fnExactRecurrentOfRow.holds Try.pinned (OpenSpec.ofChange fnExactRecurrentOfWrong)

/-- 'laws.FnExactInversePile': WHATEVER THE INPUT: true; the input reads as it did. -/
def fnExactInversePileSpec : ChangeSpec := { name := "fnExactInversePile", fn := fun _ => fun
  | [d1, d2, d3] => { results := [.lit (.bool true)], args := [d1, d2, d3] }
  | _ => none }
def fnExactInversePileRow : OpenClaim := { program := "ytjecgolakaiddaa", sum := "13b0401254b95ef0ab9f8bc87c90d70821c48eedd5a9f69169fdf54ff0d4e867", func := "loop.example/g00841/laws.FnExactInversePile", spec := "fnExactInversePile", unfollowed := true, recurses := true, apart := false }
def FnExactInversePileSaid : Prop := fnExactInversePileRow.holds Try.pinned (OpenSpec.ofChange fnExactInversePileSpec)

/-- ITS FALSE NEIGHBOUR: 'it returns false'. Refute it at one input. -/
def fnExactInversePileWrong : ChangeSpec := { name := "fnExactInversePile", fn := fun _ => fun
  | [d1, d2, d3] => { results := [.lit (.bool false)], args := [d1, d2, d3] }
  | _ => none }
def FnExactInversePileWrongFalsely : Prop := fnExactInversePileRow.holds Try.pinned (OpenSpec.ofChange fnExactInversePileWrong)

/- THE SECOND FORM. 'bulk': how many values and letters a reading holds, each counted each time it is reached (what is shared counts as often as it is met; a slice's spare places count too). A statement '..UptoSaid' is the law's where the arguments, and the package variables that the reading takes, are together of bulk at most 1048576: NARROWER than '..Said'. Prove '..Said' where nothing that the law and all that it calls make is longer than what came in: it says more and counts as full. Else prove '..UptoSaid'. A law counts once. -/
mutual
def uptoBulk {H : Type} : DataW H → Nat
  | .lit (.string bytes) => bytes.length + 1
  | .lit _ => 1
  | .nil => 1
  | .ptr d => uptoBulk d + 1
  | .slice elems spare => uptoBulkAll elems + uptoBulkAll spare + 1
  | .agg parts => uptoBulkAll parts + 1
  | .iface _ d => uptoBulk d + 1
  | .map entries => uptoBulkEntries entries + 1
  | .held _ => 1
def uptoBulkAll {H : Type} : List (DataW H) → Nat
  | [] => 0
  | d :: r => uptoBulk d + uptoBulkAll r
def uptoBulkEntries {H : Type} : List (Lit × DataW H) → Nat
  | [] => 0
  | x :: r => uptoBulkEntry x + uptoBulkEntries r
def uptoBulkEntry {H : Type} : Lit × DataW H → Nat
  | (.string bytes, d) => bytes.length + uptoBulk d + 1
  | (_, d) => uptoBulk d + 1
 end
def uptoSmall : (H : Type) → List (DataW H) → Bool := fun _ ds => decide (uptoBulkAll ds ≤ 1048576)
def OpenSpec.upto (s : _root_.Go.ChangeSpec) : _root_.Go.OpenSpec := { _root_.Go.OpenSpec.ofChange s with cond := some uptoSmall }

/-- 'laws.FnExactRowOfOne', WHERE WHAT IT READS IS OF BULK AT MOST 1048576: true; the input reads as it did. -/
def fnExactRowOfOneUptoRow : OpenClaim := { program := "ytjecgolakaiddaa", sum := "13b0401254b95ef0ab9f8bc87c90d70821c48eedd5a9f69169fdf54ff0d4e867", func := "loop.example/g00841/laws.FnExactRowOfOne", spec := "fnExactRowOfOne", apart := false, narrowed := true }
def FnExactRowOfOneUptoSaid : Prop := fnExactRowOfOneUptoRow.holds Try.pinned (OpenSpec.upto fnExactRowOfOneSpec)

/-- 'laws.FnExactIsTreeState', WHERE WHAT IT READS IS OF BULK AT MOST 1048576: true; the input reads as it did. -/
def fnExactIsTreeStateUptoRow : OpenClaim := { program := "ytjecgolakaiddaa", sum := "13b0401254b95ef0ab9f8bc87c90d70821c48eedd5a9f69169fdf54ff0d4e867", func := "loop.example/g00841/laws.FnExactIsTreeState", spec := "fnExactIsTreeState", unfollowed := true, recurses := true, apart := false, narrowed := true }
def FnExactIsTreeStateUptoSaid : Prop := fnExactIsTreeStateUptoRow.holds Try.pinned (OpenSpec.upto fnExactIsTreeStateSpec)

/-- 'laws.FnExactFullPile', WHERE WHAT IT READS IS OF BULK AT MOST 1048576: true; the input reads as it did. -/
def fnExactFullPileUptoRow : OpenClaim := { program := "ytjecgolakaiddaa", sum := "13b0401254b95ef0ab9f8bc87c90d70821c48eedd5a9f69169fdf54ff0d4e867", func := "loop.example/g00841/laws.FnExactFullPile", spec := "fnExactFullPile", unfollowed := true, recurses := true, apart := false, narrowed := true }
def FnExactFullPileUptoSaid : Prop := fnExactFullPileUptoRow.holds Try.pinned (OpenSpec.upto fnExactFullPileSpec)

/-- 'laws.FnExactIsAcyclic', WHERE WHAT IT READS IS OF BULK AT MOST 1048576: true; the input reads as it did. -/
def fnExactIsAcyclicUptoRow : OpenClaim := { program := "ytjecgolakaiddaa", sum := "13b0401254b95ef0ab9f8bc87c90d70821c48eedd5a9f69169fdf54ff0d4e867", func := "loop.example/g00841/laws.FnExactIsAcyclic", spec := "fnExactIsAcyclic", unfollowed := true, recurses := true, apart := false, narrowed := true }
def FnExactIsAcyclicUptoSaid : Prop := fnExactIsAcyclicUptoRow.holds Try.pinned (OpenSpec.upto fnExactIsAcyclicSpec)

/-- 'laws.FnExactDivisorOfOrient', WHERE WHAT IT READS IS OF BULK AT MOST 1048576: true; the input reads as it did. -/
def fnExactDivisorOfOrientUptoRow : OpenClaim := { program := "ytjecgolakaiddaa", sum := "13b0401254b95ef0ab9f8bc87c90d70821c48eedd5a9f69169fdf54ff0d4e867", func := "loop.example/g00841/laws.FnExactDivisorOfOrient", spec := "fnExactDivisorOfOrient", unfollowed := true, recurses := true, apart := false, narrowed := true }
def FnExactDivisorOfOrientUptoSaid : Prop := fnExactDivisorOfOrientUptoRow.holds Try.pinned (OpenSpec.upto fnExactDivisorOfOrientSpec)

/-- 'laws.FnExactStepWalker', WHERE WHAT IT READS IS OF BULK AT MOST 1048576: true; the input reads as it did. -/
def fnExactStepWalkerUptoRow : OpenClaim := { program := "ytjecgolakaiddaa", sum := "13b0401254b95ef0ab9f8bc87c90d70821c48eedd5a9f69169fdf54ff0d4e867", func := "loop.example/g00841/laws.FnExactStepWalker", spec := "fnExactStepWalker", unfollowed := true, recurses := true, apart := false, narrowed := true }
def FnExactStepWalkerUptoSaid : Prop := fnExactStepWalkerUptoRow.holds Try.pinned (OpenSpec.upto fnExactStepWalkerSpec)

/-- 'laws.FnExactWalkToSink', WHERE WHAT IT READS IS OF BULK AT MOST 1048576: true; the input reads as it did. -/
def fnExactWalkToSinkUptoRow : OpenClaim := { program := "ytjecgolakaiddaa", sum := "13b0401254b95ef0ab9f8bc87c90d70821c48eedd5a9f69169fdf54ff0d4e867", func := "loop.example/g00841/laws.FnExactWalkToSink", spec := "fnExactWalkToSink", unfollowed := true, recurses := true, apart := false, narrowed := true }
def FnExactWalkToSinkUptoSaid : Prop := fnExactWalkToSinkUptoRow.holds Try.pinned (OpenSpec.upto fnExactWalkToSinkSpec)

/-- 'laws.FnExactSourcesOf', WHERE WHAT IT READS IS OF BULK AT MOST 1048576: true; the input reads as it did. -/
def fnExactSourcesOfUptoRow : OpenClaim := { program := "ytjecgolakaiddaa", sum := "13b0401254b95ef0ab9f8bc87c90d70821c48eedd5a9f69169fdf54ff0d4e867", func := "loop.example/g00841/laws.FnExactSourcesOf", spec := "fnExactSourcesOf", unfollowed := true, recurses := true, apart := false, narrowed := true }
def FnExactSourcesOfUptoSaid : Prop := fnExactSourcesOfUptoRow.holds Try.pinned (OpenSpec.upto fnExactSourcesOfSpec)

/-- 'laws.FnExactStateOfTree', WHERE WHAT IT READS IS OF BULK AT MOST 1048576: true; the input reads as it did. -/
def fnExactStateOfTreeUptoRow : OpenClaim := { program := "ytjecgolakaiddaa", sum := "13b0401254b95ef0ab9f8bc87c90d70821c48eedd5a9f69169fdf54ff0d4e867", func := "loop.example/g00841/laws.FnExactStateOfTree", spec := "fnExactStateOfTree", unfollowed := true, recurses := true, apart := false, narrowed := true }
def FnExactStateOfTreeUptoSaid : Prop := fnExactStateOfTreeUptoRow.holds Try.pinned (OpenSpec.upto fnExactStateOfTreeSpec)

/-- 'laws.FnExactIsParking', WHERE WHAT IT READS IS OF BULK AT MOST 1048576: true; the input reads as it did. -/
def fnExactIsParkingUptoRow : OpenClaim := { program := "ytjecgolakaiddaa", sum := "13b0401254b95ef0ab9f8bc87c90d70821c48eedd5a9f69169fdf54ff0d4e867", func := "loop.example/g00841/laws.FnExactIsParking", spec := "fnExactIsParking", unfollowed := true, recurses := true, apart := false, narrowed := true }
def FnExactIsParkingUptoSaid : Prop := fnExactIsParkingUptoRow.holds Try.pinned (OpenSpec.upto fnExactIsParkingSpec)

/-- 'laws.FnExactTopple', WHERE WHAT IT READS IS OF BULK AT MOST 1048576: true; the input reads as it did. -/
def fnExactToppleUptoRow : OpenClaim := { program := "ytjecgolakaiddaa", sum := "13b0401254b95ef0ab9f8bc87c90d70821c48eedd5a9f69169fdf54ff0d4e867", func := "loop.example/g00841/laws.FnExactTopple", spec := "fnExactTopple", unfollowed := true, recurses := true, apart := false, narrowed := true }
def FnExactToppleUptoSaid : Prop := fnExactToppleUptoRow.holds Try.pinned (OpenSpec.upto fnExactToppleSpec)

/-- 'laws.FnExactFlipSource', WHERE WHAT IT READS IS OF BULK AT MOST 1048576: true; the input reads as it did. -/
def fnExactFlipSourceUptoRow : OpenClaim := { program := "ytjecgolakaiddaa", sum := "13b0401254b95ef0ab9f8bc87c90d70821c48eedd5a9f69169fdf54ff0d4e867", func := "loop.example/g00841/laws.FnExactFlipSource", spec := "fnExactFlipSource", unfollowed := true, recurses := true, apart := false, narrowed := true }
def FnExactFlipSourceUptoSaid : Prop := fnExactFlipSourceUptoRow.holds Try.pinned (OpenSpec.upto fnExactFlipSourceSpec)

/-- 'laws.FnExactCountAcyclic', WHERE WHAT IT READS IS OF BULK AT MOST 1048576: true; the input reads as it did. -/
def fnExactCountAcyclicUptoRow : OpenClaim := { program := "ytjecgolakaiddaa", sum := "13b0401254b95ef0ab9f8bc87c90d70821c48eedd5a9f69169fdf54ff0d4e867", func := "loop.example/g00841/laws.FnExactCountAcyclic", spec := "fnExactCountAcyclic", unfollowed := true, recurses := true, apart := false, narrowed := true }
def FnExactCountAcyclicUptoSaid : Prop := fnExactCountAcyclicUptoRow.holds Try.pinned (OpenSpec.upto fnExactCountAcyclicSpec)

/-- 'laws.FnExactAvalancheSize', WHERE WHAT IT READS IS OF BULK AT MOST 1048576: true; the input reads as it did. -/
def fnExactAvalancheSizeUptoRow : OpenClaim := { program := "ytjecgolakaiddaa", sum := "13b0401254b95ef0ab9f8bc87c90d70821c48eedd5a9f69169fdf54ff0d4e867", func := "loop.example/g00841/laws.FnExactAvalancheSize", spec := "fnExactAvalancheSize", unfollowed := true, recurses := true, apart := false, narrowed := true }
def FnExactAvalancheSizeUptoSaid : Prop := fnExactAvalancheSizeUptoRow.holds Try.pinned (OpenSpec.upto fnExactAvalancheSizeSpec)

/-- 'laws.FnExactStabilize', WHERE WHAT IT READS IS OF BULK AT MOST 1048576: true; the input reads as it did. -/
def fnExactStabilizeUptoRow : OpenClaim := { program := "ytjecgolakaiddaa", sum := "13b0401254b95ef0ab9f8bc87c90d70821c48eedd5a9f69169fdf54ff0d4e867", func := "loop.example/g00841/laws.FnExactStabilize", spec := "fnExactStabilize", unfollowed := true, recurses := true, apart := false, narrowed := true }
def FnExactStabilizeUptoSaid : Prop := fnExactStabilizeUptoRow.holds Try.pinned (OpenSpec.upto fnExactStabilizeSpec)

/-- 'laws.FnExactOrientByBurning', WHERE WHAT IT READS IS OF BULK AT MOST 1048576: true; the input reads as it did. -/
def fnExactOrientByBurningUptoRow : OpenClaim := { program := "ytjecgolakaiddaa", sum := "13b0401254b95ef0ab9f8bc87c90d70821c48eedd5a9f69169fdf54ff0d4e867", func := "loop.example/g00841/laws.FnExactOrientByBurning", spec := "fnExactOrientByBurning", unfollowed := true, recurses := true, apart := false, narrowed := true }
def FnExactOrientByBurningUptoSaid : Prop := fnExactOrientByBurningUptoRow.holds Try.pinned (OpenSpec.upto fnExactOrientByBurningSpec)

/-- 'laws.FnExactSumOfPiles', WHERE WHAT IT READS IS OF BULK AT MOST 1048576: true; the input reads as it did. -/
def fnExactSumOfPilesUptoRow : OpenClaim := { program := "ytjecgolakaiddaa", sum := "13b0401254b95ef0ab9f8bc87c90d70821c48eedd5a9f69169fdf54ff0d4e867", func := "loop.example/g00841/laws.FnExactSumOfPiles", spec := "fnExactSumOfPiles", unfollowed := true, recurses := true, apart := false, narrowed := true }
def FnExactSumOfPilesUptoSaid : Prop := fnExactSumOfPilesUptoRow.holds Try.pinned (OpenSpec.upto fnExactSumOfPilesSpec)

/-- 'laws.FnExactIsRecurrent', WHERE WHAT IT READS IS OF BULK AT MOST 1048576: true; the input reads as it did. -/
def fnExactIsRecurrentUptoRow : OpenClaim := { program := "ytjecgolakaiddaa", sum := "13b0401254b95ef0ab9f8bc87c90d70821c48eedd5a9f69169fdf54ff0d4e867", func := "loop.example/g00841/laws.FnExactIsRecurrent", spec := "fnExactIsRecurrent", unfollowed := true, recurses := true, apart := false, narrowed := true }
def FnExactIsRecurrentUptoSaid : Prop := fnExactIsRecurrentUptoRow.holds Try.pinned (OpenSpec.upto fnExactIsRecurrentSpec)

/-- 'laws.FnExactDropChip', WHERE WHAT IT READS IS OF BULK AT MOST 1048576: true; the input reads as it did. -/
def fnExactDropChipUptoRow : OpenClaim := { program := "ytjecgolakaiddaa", sum := "13b0401254b95ef0ab9f8bc87c90d70821c48eedd5a9f69169fdf54ff0d4e867", func := "loop.example/g00841/laws.FnExactDropChip", spec := "fnExactDropChip", unfollowed := true, recurses := true, apart := false, narrowed := true }
def FnExactDropChipUptoSaid : Prop := fnExactDropChipUptoRow.holds Try.pinned (OpenSpec.upto fnExactDropChipSpec)

/-- 'laws.FnExactLevelOf', WHERE WHAT IT READS IS OF BULK AT MOST 1048576: true; the input reads as it did. -/
def fnExactLevelOfUptoRow : OpenClaim := { program := "ytjecgolakaiddaa", sum := "13b0401254b95ef0ab9f8bc87c90d70821c48eedd5a9f69169fdf54ff0d4e867", func := "loop.example/g00841/laws.FnExactLevelOf", spec := "fnExactLevelOf", unfollowed := true, recurses := true, apart := false, narrowed := true }
def FnExactLevelOfUptoSaid : Prop := fnExactLevelOfUptoRow.holds Try.pinned (OpenSpec.upto fnExactLevelOfSpec)

/-- 'laws.FnExactPileOfParking', WHERE WHAT IT READS IS OF BULK AT MOST 1048576: true; the input reads as it did. -/
def fnExactPileOfParkingUptoRow : OpenClaim := { program := "ytjecgolakaiddaa", sum := "13b0401254b95ef0ab9f8bc87c90d70821c48eedd5a9f69169fdf54ff0d4e867", func := "loop.example/g00841/laws.FnExactPileOfParking", spec := "fnExactPileOfParking", unfollowed := true, recurses := true, apart := false, narrowed := true }
def FnExactPileOfParkingUptoSaid : Prop := fnExactPileOfParkingUptoRow.holds Try.pinned (OpenSpec.upto fnExactPileOfParkingSpec)

/-- 'laws.FnExactOrderOf', WHERE WHAT IT READS IS OF BULK AT MOST 1048576: true; the input reads as it did. -/
def fnExactOrderOfUptoRow : OpenClaim := { program := "ytjecgolakaiddaa", sum := "13b0401254b95ef0ab9f8bc87c90d70821c48eedd5a9f69169fdf54ff0d4e867", func := "loop.example/g00841/laws.FnExactOrderOf", spec := "fnExactOrderOf", unfollowed := true, recurses := true, apart := false, narrowed := true }
def FnExactOrderOfUptoSaid : Prop := fnExactOrderOfUptoRow.holds Try.pinned (OpenSpec.upto fnExactOrderOfSpec)

/-- 'laws.FnExactSumOfClasses', WHERE WHAT IT READS IS OF BULK AT MOST 1048576: true; the input reads as it did. -/
def fnExactSumOfClassesUptoRow : OpenClaim := { program := "ytjecgolakaiddaa", sum := "13b0401254b95ef0ab9f8bc87c90d70821c48eedd5a9f69169fdf54ff0d4e867", func := "loop.example/g00841/laws.FnExactSumOfClasses", spec := "fnExactSumOfClasses", unfollowed := true, recurses := true, apart := false, narrowed := true }
def FnExactSumOfClassesUptoSaid : Prop := fnExactSumOfClassesUptoRow.holds Try.pinned (OpenSpec.upto fnExactSumOfClassesSpec)

/-- 'laws.FnExactInverseClass', WHERE WHAT IT READS IS OF BULK AT MOST 1048576: true; the input reads as it did. -/
def fnExactInverseClassUptoRow : OpenClaim := { program := "ytjecgolakaiddaa", sum := "13b0401254b95ef0ab9f8bc87c90d70821c48eedd5a9f69169fdf54ff0d4e867", func := "loop.example/g00841/laws.FnExactInverseClass", spec := "fnExactInverseClass", unfollowed := true, recurses := true, apart := false, narrowed := true }
def FnExactInverseClassUptoSaid : Prop := fnExactInverseClassUptoRow.holds Try.pinned (OpenSpec.upto fnExactInverseClassSpec)

/-- 'laws.FnExactIdentityPile', WHERE WHAT IT READS IS OF BULK AT MOST 1048576: true; the input reads as it did. -/
def fnExactIdentityPileUptoRow : OpenClaim := { program := "ytjecgolakaiddaa", sum := "13b0401254b95ef0ab9f8bc87c90d70821c48eedd5a9f69169fdf54ff0d4e867", func := "loop.example/g00841/laws.FnExactIdentityPile", spec := "fnExactIdentityPile", unfollowed := true, recurses := true, apart := false, narrowed := true }
def FnExactIdentityPileUptoSaid : Prop := fnExactIdentityPileUptoRow.holds Try.pinned (OpenSpec.upto fnExactIdentityPileSpec)

/-- 'laws.FnExactParkingOfPile', WHERE WHAT IT READS IS OF BULK AT MOST 1048576: true; the input reads as it did. -/
def fnExactParkingOfPileUptoRow : OpenClaim := { program := "ytjecgolakaiddaa", sum := "13b0401254b95ef0ab9f8bc87c90d70821c48eedd5a9f69169fdf54ff0d4e867", func := "loop.example/g00841/laws.FnExactParkingOfPile", spec := "fnExactParkingOfPile", unfollowed := true, recurses := true, apart := false, narrowed := true }
def FnExactParkingOfPileUptoSaid : Prop := fnExactParkingOfPileUptoRow.holds Try.pinned (OpenSpec.upto fnExactParkingOfPileSpec)

/-- 'laws.FnExactTimesClass', WHERE WHAT IT READS IS OF BULK AT MOST 1048576: true; the input reads as it did. -/
def fnExactTimesClassUptoRow : OpenClaim := { program := "ytjecgolakaiddaa", sum := "13b0401254b95ef0ab9f8bc87c90d70821c48eedd5a9f69169fdf54ff0d4e867", func := "loop.example/g00841/laws.FnExactTimesClass", spec := "fnExactTimesClass", unfollowed := true, recurses := true, apart := false, narrowed := true }
def FnExactTimesClassUptoSaid : Prop := fnExactTimesClassUptoRow.holds Try.pinned (OpenSpec.upto fnExactTimesClassSpec)

/-- 'laws.FnExactRecurrentOf', WHERE WHAT IT READS IS OF BULK AT MOST 1048576: true; the input reads as it did. -/
def fnExactRecurrentOfUptoRow : OpenClaim := { program := "ytjecgolakaiddaa", sum := "13b0401254b95ef0ab9f8bc87c90d70821c48eedd5a9f69169fdf54ff0d4e867", func := "loop.example/g00841/laws.FnExactRecurrentOf", spec := "fnExactRecurrentOf", unfollowed := true, recurses := true, apart := false, narrowed := true }
def FnExactRecurrentOfUptoSaid : Prop := fnExactRecurrentOfUptoRow.holds Try.pinned (OpenSpec.upto fnExactRecurrentOfSpec)

/-- 'laws.FnExactInversePile', WHERE WHAT IT READS IS OF BULK AT MOST 1048576: true; the input reads as it did. -/
def fnExactInversePileUptoRow : OpenClaim := { program := "ytjecgolakaiddaa", sum := "13b0401254b95ef0ab9f8bc87c90d70821c48eedd5a9f69169fdf54ff0d4e867", func := "loop.example/g00841/laws.FnExactInversePile", spec := "fnExactInversePile", unfollowed := true, recurses := true, apart := false, narrowed := true }
def FnExactInversePileUptoSaid : Prop := fnExactInversePileUptoRow.holds Try.pinned (OpenSpec.upto fnExactInversePileSpec)

end Rows
end Go.Proofs.Ytjecgolakaiddaa
