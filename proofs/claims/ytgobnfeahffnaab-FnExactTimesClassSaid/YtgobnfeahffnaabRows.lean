/-
  No cell of these rows narrows 'for every input' (looked for: loops, veiled, ifaces, maps, wideKeys, modest, calm, conditions, laid).
  DERIVED. THE GIVEN ROWS OF THIS SEAT. 4 by the template 'for every input the law returns true; each argument reads behind the call as it read before'; 0 by the template 'total and deterministic' (their statements: YtgobnfeahffnaabTotals.lean).
  GIVEN WITH THE SEED: the statements are not yours to turn. If you find one false, say at which input.
  Laid BY PROGRAM, IN A SANDBOX (cutbox-rows.mjs): the forced cells as the released guide's own fill.sh prints them over the translation a850a5fbc7281c44… (all of the seat's roots in one cut). By AI agents, Wed Nov 11 2026. No macro, syntax, notation, axiom, sorry.
-/
import Derived.Test.YtgobnfeahffnaabChecked
import GoSem.Claim
import GoSem.ClaimJoined
import GoSem.ClaimMapViews
import Derived.JoinedTies
import Derived.KernelRfl
namespace Go.Proofs.Ytgobnfeahffnaab
/- THE CELL 'sum', in the pinned program and in every row, IS THE sha256 OF THE DUMP (.gsa) THAT YtgobnfeahffnaabProg.lean LOADS. Nothing in Lean hashes anything: it is a label: what it is worth is what the hold of that sum in a sandbox is worth. -/
noncomputable def Try.pinned : Pinned := { name := "ytgobnfeahffnaab", sum := "a850a5fbc7281c449793b0073e342751a67292a2fae1a47509e59e8ed1097d23", checked := Try.checked }
namespace Rows
def none {H : Type} : Left H := { results := [], args := [] }

/-- 'laws.FnExactParkingOfPile': WHATEVER THE INPUT: true; the input reads as it did. -/
def fnExactParkingOfPileSpec : ChangeSpec := { name := "fnExactParkingOfPile", fn := fun _ => fun
  | [d1, d2, d3] => { results := [.lit (.bool true)], args := [d1, d2, d3] }
  | _ => none }
def fnExactParkingOfPileRow : OpenClaim := { program := "ytgobnfeahffnaab", sum := "a850a5fbc7281c449793b0073e342751a67292a2fae1a47509e59e8ed1097d23", func := "loop.example/g00841/laws.FnExactParkingOfPile", spec := "fnExactParkingOfPile", unfollowed := true, recurses := true, apart := false }
def FnExactParkingOfPileSaid : Prop := fnExactParkingOfPileRow.holds Try.pinned (OpenSpec.ofChange fnExactParkingOfPileSpec)

/-- ITS FALSE NEIGHBOUR: 'it returns false'. Refute it at one input. -/
def fnExactParkingOfPileWrong : ChangeSpec := { name := "fnExactParkingOfPile", fn := fun _ => fun
  | [d1, d2, d3] => { results := [.lit (.bool false)], args := [d1, d2, d3] }
  | _ => none }
def FnExactParkingOfPileWrongFalsely : Prop := fnExactParkingOfPileRow.holds Try.pinned (OpenSpec.ofChange fnExactParkingOfPileWrong)

/-- 'laws.FnExactTimesClass': WHATEVER THE INPUT: true; the input reads as it did. -/
def fnExactTimesClassSpec : ChangeSpec := { name := "fnExactTimesClass", fn := fun _ => fun
  | [d1, d2, d3] => { results := [.lit (.bool true)], args := [d1, d2, d3] }
  | _ => none }
def fnExactTimesClassRow : OpenClaim := { program := "ytgobnfeahffnaab", sum := "a850a5fbc7281c449793b0073e342751a67292a2fae1a47509e59e8ed1097d23", func := "loop.example/g00841/laws.FnExactTimesClass", spec := "fnExactTimesClass", unfollowed := true, recurses := true, apart := false }
def FnExactTimesClassSaid : Prop := fnExactTimesClassRow.holds Try.pinned (OpenSpec.ofChange fnExactTimesClassSpec)

/-- ITS FALSE NEIGHBOUR: 'it returns false'. Refute it at one input. -/
def fnExactTimesClassWrong : ChangeSpec := { name := "fnExactTimesClass", fn := fun _ => fun
  | [d1, d2, d3] => { results := [.lit (.bool false)], args := [d1, d2, d3] }
  | _ => none }
def FnExactTimesClassWrongFalsely : Prop := fnExactTimesClassRow.holds Try.pinned (OpenSpec.ofChange fnExactTimesClassWrong)

/-- 'laws.FnExactRecurrentOf': WHATEVER THE INPUT: true; the input reads as it did. -/
def fnExactRecurrentOfSpec : ChangeSpec := { name := "fnExactRecurrentOf", fn := fun _ => fun
  | [d1, d2, d3] => { results := [.lit (.bool true)], args := [d1, d2, d3] }
  | _ => none }
def fnExactRecurrentOfRow : OpenClaim := { program := "ytgobnfeahffnaab", sum := "a850a5fbc7281c449793b0073e342751a67292a2fae1a47509e59e8ed1097d23", func := "loop.example/g00841/laws.FnExactRecurrentOf", spec := "fnExactRecurrentOf", unfollowed := true, recurses := true, apart := false }
def FnExactRecurrentOfSaid : Prop := fnExactRecurrentOfRow.holds Try.pinned (OpenSpec.ofChange fnExactRecurrentOfSpec)

/-- ITS FALSE NEIGHBOUR: 'it returns false'. Refute it at one input. -/
def fnExactRecurrentOfWrong : ChangeSpec := { name := "fnExactRecurrentOf", fn := fun _ => fun
  | [d1, d2, d3] => { results := [.lit (.bool false)], args := [d1, d2, d3] }
  | _ => none }
def FnExactRecurrentOfWrongFalsely : Prop := fnExactRecurrentOfRow.holds Try.pinned (OpenSpec.ofChange fnExactRecurrentOfWrong)

/-- 'laws.FnExactInversePile': WHATEVER THE INPUT: true; the input reads as it did. -/
def fnExactInversePileSpec : ChangeSpec := { name := "fnExactInversePile", fn := fun _ => fun
  | [d1, d2, d3] => { results := [.lit (.bool true)], args := [d1, d2, d3] }
  | _ => none }
def fnExactInversePileRow : OpenClaim := { program := "ytgobnfeahffnaab", sum := "a850a5fbc7281c449793b0073e342751a67292a2fae1a47509e59e8ed1097d23", func := "loop.example/g00841/laws.FnExactInversePile", spec := "fnExactInversePile", unfollowed := true, recurses := true, apart := false }
def FnExactInversePileSaid : Prop := fnExactInversePileRow.holds Try.pinned (OpenSpec.ofChange fnExactInversePileSpec)

/-- ITS FALSE NEIGHBOUR: 'it returns false'. Refute it at one input. -/
def fnExactInversePileWrong : ChangeSpec := { name := "fnExactInversePile", fn := fun _ => fun
  | [d1, d2, d3] => { results := [.lit (.bool false)], args := [d1, d2, d3] }
  | _ => none }
def FnExactInversePileWrongFalsely : Prop := fnExactInversePileRow.holds Try.pinned (OpenSpec.ofChange fnExactInversePileWrong)

/- THE SECOND FORM. 'bulk': how many values and letters a reading holds, each counted each time it is reached (what is shared counts as often as it is met; a slice's spare places count too). A statement '..UptoSaid' is the law's where the arguments, and the package variables that the reading takes, are together of bulk at most 1048576: NARROWER than '..Said'. Prove '..Said' where nothing that the law and all that it calls make is longer than what came in: it says more and counts as full. Else prove '..UptoSaid'. A law counts once. -/
mutual
def uptoBulk {H : Type} : DataW H → Nat
  | .lit (.string bytes) => bytes.length + 1
  | .lit _ => 1
  | .nil => 1
  | .ptr d => uptoBulk d + 1
  | .slice elems spare => uptoBulkAll elems + uptoBulkAll spare + 1
  | .agg parts => uptoBulkAll parts + 1
  | .iface _ d => uptoBulk d + 1
  | .map entries => uptoBulkEntries entries + 1
  | .held _ => 1
def uptoBulkAll {H : Type} : List (DataW H) → Nat
  | [] => 0
  | d :: r => uptoBulk d + uptoBulkAll r
def uptoBulkEntries {H : Type} : List (Lit × DataW H) → Nat
  | [] => 0
  | x :: r => uptoBulkEntry x + uptoBulkEntries r
def uptoBulkEntry {H : Type} : Lit × DataW H → Nat
  | (.string bytes, d) => bytes.length + uptoBulk d + 1
  | (_, d) => uptoBulk d + 1
 end
def uptoSmall : (H : Type) → List (DataW H) → Bool := fun _ ds => decide (uptoBulkAll ds ≤ 1048576)
def OpenSpec.upto (s : _root_.Go.ChangeSpec) : _root_.Go.OpenSpec := { _root_.Go.OpenSpec.ofChange s with cond := some uptoSmall }

/-- 'laws.FnExactParkingOfPile', WHERE WHAT IT READS IS OF BULK AT MOST 1048576: true; the input reads as it did. -/
def fnExactParkingOfPileUptoRow : OpenClaim := { program := "ytgobnfeahffnaab", sum := "a850a5fbc7281c449793b0073e342751a67292a2fae1a47509e59e8ed1097d23", func := "loop.example/g00841/laws.FnExactParkingOfPile", spec := "fnExactParkingOfPile", unfollowed := true, recurses := true, apart := false, narrowed := true }
def FnExactParkingOfPileUptoSaid : Prop := fnExactParkingOfPileUptoRow.holds Try.pinned (OpenSpec.upto fnExactParkingOfPileSpec)

/-- 'laws.FnExactTimesClass', WHERE WHAT IT READS IS OF BULK AT MOST 1048576: true; the input reads as it did. -/
def fnExactTimesClassUptoRow : OpenClaim := { program := "ytgobnfeahffnaab", sum := "a850a5fbc7281c449793b0073e342751a67292a2fae1a47509e59e8ed1097d23", func := "loop.example/g00841/laws.FnExactTimesClass", spec := "fnExactTimesClass", unfollowed := true, recurses := true, apart := false, narrowed := true }
def FnExactTimesClassUptoSaid : Prop := fnExactTimesClassUptoRow.holds Try.pinned (OpenSpec.upto fnExactTimesClassSpec)

/-- 'laws.FnExactRecurrentOf', WHERE WHAT IT READS IS OF BULK AT MOST 1048576: true; the input reads as it did. -/
def fnExactRecurrentOfUptoRow : OpenClaim := { program := "ytgobnfeahffnaab", sum := "a850a5fbc7281c449793b0073e342751a67292a2fae1a47509e59e8ed1097d23", func := "loop.example/g00841/laws.FnExactRecurrentOf", spec := "fnExactRecurrentOf", unfollowed := true, recurses := true, apart := false, narrowed := true }
def FnExactRecurrentOfUptoSaid : Prop := fnExactRecurrentOfUptoRow.holds Try.pinned (OpenSpec.upto fnExactRecurrentOfSpec)

/-- 'laws.FnExactInversePile', WHERE WHAT IT READS IS OF BULK AT MOST 1048576: true; the input reads as it did. -/
def fnExactInversePileUptoRow : OpenClaim := { program := "ytgobnfeahffnaab", sum := "a850a5fbc7281c449793b0073e342751a67292a2fae1a47509e59e8ed1097d23", func := "loop.example/g00841/laws.FnExactInversePile", spec := "fnExactInversePile", unfollowed := true, recurses := true, apart := false, narrowed := true }
def FnExactInversePileUptoSaid : Prop := fnExactInversePileUptoRow.holds Try.pinned (OpenSpec.upto fnExactInversePileSpec)

end Rows
end Go.Proofs.Ytgobnfeahffnaab
