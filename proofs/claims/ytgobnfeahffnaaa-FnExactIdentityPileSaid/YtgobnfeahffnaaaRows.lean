/-
  No cell of these rows narrows 'for every input' (looked for: loops, veiled, ifaces, maps, wideKeys, modest, calm, conditions, laid).
  DERIVED. THE GIVEN ROWS OF THIS SEAT. 6 by the template 'for every input the law returns true; each argument reads behind the call as it read before'; 0 by the template 'total and deterministic' (their statements: YtgobnfeahffnaaaTotals.lean).
  GIVEN WITH THE SEED: the statements are not yours to turn. If you find one false, say at which input.
  Laid BY PROGRAM, IN A SANDBOX (cutbox-rows.mjs): the forced cells as the released guide's own fill.sh prints them over the translation 31ef70a7d11af226… (all of the seat's roots in one cut). By AI agents, Wed Nov 11 2026. No macro, syntax, notation, axiom, sorry.
-/
import Derived.Test.YtgobnfeahffnaaaChecked
import GoSem.Claim
import GoSem.ClaimJoined
import GoSem.ClaimMapViews
import Derived.JoinedTies
import Derived.KernelRfl
namespace Go.Proofs.Ytgobnfeahffnaaa
/- THE CELL 'sum', in the pinned program and in every row, IS THE sha256 OF THE DUMP (.gsa) THAT YtgobnfeahffnaaaProg.lean LOADS. Nothing in Lean hashes anything: it is a label: what it is worth is what the hold of that sum in a sandbox is worth. -/
noncomputable def Try.pinned : Pinned := { name := "ytgobnfeahffnaaa", sum := "31ef70a7d11af226068896cd27fa4191e0ba668e2804adb9008dc055039640e2", checked := Try.checked }
namespace Rows
def none {H : Type} : Left H := { results := [], args := [] }

/-- 'laws.FnRecurrent': WHATEVER THE INPUT: true; the input reads as it did. -/
def fnRecurrentSpec : ChangeSpec := { name := "fnRecurrent", fn := fun _ => fun
  | [d] => { results := [.lit (.bool true)], args := [d] }
  | _ => none }
def fnRecurrentRow : OpenClaim := { program := "ytgobnfeahffnaaa", sum := "31ef70a7d11af226068896cd27fa4191e0ba668e2804adb9008dc055039640e2", func := "loop.example/g00841/laws.FnRecurrent", spec := "fnRecurrent", unfollowed := true, recurses := true, apart := false }
def FnRecurrentSaid : Prop := fnRecurrentRow.holds Try.pinned (OpenSpec.ofChange fnRecurrentSpec)

/-- ITS FALSE NEIGHBOUR: 'it returns false'. Refute it at one input. -/
def fnRecurrentWrong : ChangeSpec := { name := "fnRecurrent", fn := fun _ => fun
  | [d] => { results := [.lit (.bool false)], args := [d] }
  | _ => none }
def FnRecurrentWrongFalsely : Prop := fnRecurrentRow.holds Try.pinned (OpenSpec.ofChange fnRecurrentWrong)

/-- 'laws.FnAbelian': WHATEVER THE INPUT: true; the input reads as it did. -/
def fnAbelianSpec : ChangeSpec := { name := "fnAbelian", fn := fun _ => fun
  | [d] => { results := [.lit (.bool true)], args := [d] }
  | _ => none }
def fnAbelianRow : OpenClaim := { program := "ytgobnfeahffnaaa", sum := "31ef70a7d11af226068896cd27fa4191e0ba668e2804adb9008dc055039640e2", func := "loop.example/g00841/laws.FnAbelian", spec := "fnAbelian", unfollowed := true, recurses := true, apart := false }
def FnAbelianSaid : Prop := fnAbelianRow.holds Try.pinned (OpenSpec.ofChange fnAbelianSpec)

/-- ITS FALSE NEIGHBOUR: 'it returns false'. Refute it at one input. -/
def fnAbelianWrong : ChangeSpec := { name := "fnAbelian", fn := fun _ => fun
  | [d] => { results := [.lit (.bool false)], args := [d] }
  | _ => none }
def FnAbelianWrongFalsely : Prop := fnAbelianRow.holds Try.pinned (OpenSpec.ofChange fnAbelianWrong)

/-- 'laws.FnExactSumOfPiles': WHATEVER THE INPUT: true; the input reads as it did. -/
def fnExactSumOfPilesSpec : ChangeSpec := { name := "fnExactSumOfPiles", fn := fun _ => fun
  | [d1, d2, d3, d4] => { results := [.lit (.bool true)], args := [d1, d2, d3, d4] }
  | _ => none }
def fnExactSumOfPilesRow : OpenClaim := { program := "ytgobnfeahffnaaa", sum := "31ef70a7d11af226068896cd27fa4191e0ba668e2804adb9008dc055039640e2", func := "loop.example/g00841/laws.FnExactSumOfPiles", spec := "fnExactSumOfPiles", unfollowed := true, recurses := true, apart := false }
def FnExactSumOfPilesSaid : Prop := fnExactSumOfPilesRow.holds Try.pinned (OpenSpec.ofChange fnExactSumOfPilesSpec)

/-- ITS FALSE NEIGHBOUR: 'it returns false'. Refute it at one input. -/
def fnExactSumOfPilesWrong : ChangeSpec := { name := "fnExactSumOfPiles", fn := fun _ => fun
  | [d1, d2, d3, d4] => { results := [.lit (.bool false)], args := [d1, d2, d3, d4] }
  | _ => none }
def FnExactSumOfPilesWrongFalsely : Prop := fnExactSumOfPilesRow.holds Try.pinned (OpenSpec.ofChange fnExactSumOfPilesWrong)

/-- 'laws.FnExactSumOfClasses': WHATEVER THE INPUT: true; the input reads as it did. -/
def fnExactSumOfClassesSpec : ChangeSpec := { name := "fnExactSumOfClasses", fn := fun _ => fun
  | [d1, d2, d3] => { results := [.lit (.bool true)], args := [d1, d2, d3] }
  | _ => none }
def fnExactSumOfClassesRow : OpenClaim := { program := "ytgobnfeahffnaaa", sum := "31ef70a7d11af226068896cd27fa4191e0ba668e2804adb9008dc055039640e2", func := "loop.example/g00841/laws.FnExactSumOfClasses", spec := "fnExactSumOfClasses", unfollowed := true, recurses := true, apart := false }
def FnExactSumOfClassesSaid : Prop := fnExactSumOfClassesRow.holds Try.pinned (OpenSpec.ofChange fnExactSumOfClassesSpec)

/-- ITS FALSE NEIGHBOUR: 'it returns false'. Refute it at one input. -/
def fnExactSumOfClassesWrong : ChangeSpec := { name := "fnExactSumOfClasses", fn := fun _ => fun
  | [d1, d2, d3] => { results := [.lit (.bool false)], args := [d1, d2, d3] }
  | _ => none }
def FnExactSumOfClassesWrongFalsely : Prop := fnExactSumOfClassesRow.holds Try.pinned (OpenSpec.ofChange fnExactSumOfClassesWrong)

/-- 'laws.FnExactIdentityPile': WHATEVER THE INPUT: true; the input reads as it did. -/
def fnExactIdentityPileSpec : ChangeSpec := { name := "fnExactIdentityPile", fn := fun _ => fun
  | [d1, d2] => { results := [.lit (.bool true)], args := [d1, d2] }
  | _ => none }
def fnExactIdentityPileRow : OpenClaim := { program := "ytgobnfeahffnaaa", sum := "31ef70a7d11af226068896cd27fa4191e0ba668e2804adb9008dc055039640e2", func := "loop.example/g00841/laws.FnExactIdentityPile", spec := "fnExactIdentityPile", unfollowed := true, recurses := true, apart := false }
def FnExactIdentityPileSaid : Prop := fnExactIdentityPileRow.holds Try.pinned (OpenSpec.ofChange fnExactIdentityPileSpec)

/-- ITS FALSE NEIGHBOUR: 'it returns false'. Refute it at one input. -/
def fnExactIdentityPileWrong : ChangeSpec := { name := "fnExactIdentityPile", fn := fun _ => fun
  | [d1, d2] => { results := [.lit (.bool false)], args := [d1, d2] }
  | _ => none }
def FnExactIdentityPileWrongFalsely : Prop := fnExactIdentityPileRow.holds Try.pinned (OpenSpec.ofChange fnExactIdentityPileWrong)

/-- 'laws.FnOrients': WHATEVER THE INPUT: true; the input reads as it did. -/
def fnOrientsSpec : ChangeSpec := { name := "fnOrients", fn := fun _ => fun
  | [d] => { results := [.lit (.bool true)], args := [d] }
  | _ => none }
def fnOrientsRow : OpenClaim := { program := "ytgobnfeahffnaaa", sum := "31ef70a7d11af226068896cd27fa4191e0ba668e2804adb9008dc055039640e2", func := "loop.example/g00841/laws.FnOrients", spec := "fnOrients", unfollowed := true, recurses := true, apart := false }
def FnOrientsSaid : Prop := fnOrientsRow.holds Try.pinned (OpenSpec.ofChange fnOrientsSpec)

/-- ITS FALSE NEIGHBOUR: 'it returns false'. Refute it at one input. -/
def fnOrientsWrong : ChangeSpec := { name := "fnOrients", fn := fun _ => fun
  | [d] => { results := [.lit (.bool false)], args := [d] }
  | _ => none }
def FnOrientsWrongFalsely : Prop := fnOrientsRow.holds Try.pinned (OpenSpec.ofChange fnOrientsWrong)

/- THE SECOND FORM. 'bulk': how many values and letters a reading holds, each counted each time it is reached (what is shared counts as often as it is met; a slice's spare places count too). A statement '..UptoSaid' is the law's where the arguments, and the package variables that the reading takes, are together of bulk at most 1048576: NARROWER than '..Said'. Prove '..Said' where nothing that the law and all that it calls make is longer than what came in: it says more and counts as full. Else prove '..UptoSaid'. A law counts once. -/
mutual
def uptoBulk {H : Type} : DataW H → Nat
  | .lit (.string bytes) => bytes.length + 1
  | .lit _ => 1
  | .nil => 1
  | .ptr d => uptoBulk d + 1
  | .slice elems spare => uptoBulkAll elems + uptoBulkAll spare + 1
  | .agg parts => uptoBulkAll parts + 1
  | .iface _ d => uptoBulk d + 1
  | .map entries => uptoBulkEntries entries + 1
  | .held _ => 1
def uptoBulkAll {H : Type} : List (DataW H) → Nat
  | [] => 0
  | d :: r => uptoBulk d + uptoBulkAll r
def uptoBulkEntries {H : Type} : List (Lit × DataW H) → Nat
  | [] => 0
  | x :: r => uptoBulkEntry x + uptoBulkEntries r
def uptoBulkEntry {H : Type} : Lit × DataW H → Nat
  | (.string bytes, d) => bytes.length + uptoBulk d + 1
  | (_, d) => uptoBulk d + 1
 end
def uptoSmall : (H : Type) → List (DataW H) → Bool := fun _ ds => decide (uptoBulkAll ds ≤ 1048576)
def OpenSpec.upto (s : _root_.Go.ChangeSpec) : _root_.Go.OpenSpec := { _root_.Go.OpenSpec.ofChange s with cond := some uptoSmall }

/-- 'laws.FnRecurrent', WHERE WHAT IT READS IS OF BULK AT MOST 1048576: true; the input reads as it did. -/
def fnRecurrentUptoRow : OpenClaim := { program := "ytgobnfeahffnaaa", sum := "31ef70a7d11af226068896cd27fa4191e0ba668e2804adb9008dc055039640e2", func := "loop.example/g00841/laws.FnRecurrent", spec := "fnRecurrent", unfollowed := true, recurses := true, apart := false, narrowed := true }
def FnRecurrentUptoSaid : Prop := fnRecurrentUptoRow.holds Try.pinned (OpenSpec.upto fnRecurrentSpec)

/-- 'laws.FnAbelian', WHERE WHAT IT READS IS OF BULK AT MOST 1048576: true; the input reads as it did. -/
def fnAbelianUptoRow : OpenClaim := { program := "ytgobnfeahffnaaa", sum := "31ef70a7d11af226068896cd27fa4191e0ba668e2804adb9008dc055039640e2", func := "loop.example/g00841/laws.FnAbelian", spec := "fnAbelian", unfollowed := true, recurses := true, apart := false, narrowed := true }
def FnAbelianUptoSaid : Prop := fnAbelianUptoRow.holds Try.pinned (OpenSpec.upto fnAbelianSpec)

/-- 'laws.FnExactSumOfPiles', WHERE WHAT IT READS IS OF BULK AT MOST 1048576: true; the input reads as it did. -/
def fnExactSumOfPilesUptoRow : OpenClaim := { program := "ytgobnfeahffnaaa", sum := "31ef70a7d11af226068896cd27fa4191e0ba668e2804adb9008dc055039640e2", func := "loop.example/g00841/laws.FnExactSumOfPiles", spec := "fnExactSumOfPiles", unfollowed := true, recurses := true, apart := false, narrowed := true }
def FnExactSumOfPilesUptoSaid : Prop := fnExactSumOfPilesUptoRow.holds Try.pinned (OpenSpec.upto fnExactSumOfPilesSpec)

/-- 'laws.FnExactSumOfClasses', WHERE WHAT IT READS IS OF BULK AT MOST 1048576: true; the input reads as it did. -/
def fnExactSumOfClassesUptoRow : OpenClaim := { program := "ytgobnfeahffnaaa", sum := "31ef70a7d11af226068896cd27fa4191e0ba668e2804adb9008dc055039640e2", func := "loop.example/g00841/laws.FnExactSumOfClasses", spec := "fnExactSumOfClasses", unfollowed := true, recurses := true, apart := false, narrowed := true }
def FnExactSumOfClassesUptoSaid : Prop := fnExactSumOfClassesUptoRow.holds Try.pinned (OpenSpec.upto fnExactSumOfClassesSpec)

/-- 'laws.FnExactIdentityPile', WHERE WHAT IT READS IS OF BULK AT MOST 1048576: true; the input reads as it did. -/
def fnExactIdentityPileUptoRow : OpenClaim := { program := "ytgobnfeahffnaaa", sum := "31ef70a7d11af226068896cd27fa4191e0ba668e2804adb9008dc055039640e2", func := "loop.example/g00841/laws.FnExactIdentityPile", spec := "fnExactIdentityPile", unfollowed := true, recurses := true, apart := false, narrowed := true }
def FnExactIdentityPileUptoSaid : Prop := fnExactIdentityPileUptoRow.holds Try.pinned (OpenSpec.upto fnExactIdentityPileSpec)

/-- 'laws.FnOrients', WHERE WHAT IT READS IS OF BULK AT MOST 1048576: true; the input reads as it did. -/
def fnOrientsUptoRow : OpenClaim := { program := "ytgobnfeahffnaaa", sum := "31ef70a7d11af226068896cd27fa4191e0ba668e2804adb9008dc055039640e2", func := "loop.example/g00841/laws.FnOrients", spec := "fnOrients", unfollowed := true, recurses := true, apart := false, narrowed := true }
def FnOrientsUptoSaid : Prop := fnOrientsUptoRow.holds Try.pinned (OpenSpec.upto fnOrientsSpec)

end Rows
end Go.Proofs.Ytgobnfeahffnaaa
