/-
  No cell of these rows narrows 'for every input' (looked for: loops, veiled, ifaces, maps, wideKeys, modest, calm, conditions, laid).
  DERIVED. THE GIVEN ROWS OF THIS SEAT. 4 by the template 'for every input the law returns true; each argument reads behind the call as it read before'; 0 by the template 'total and deterministic' (their statements: YtkcbinohpdhbgaaTotals.lean).
  GIVEN WITH THE SEED: the statements are not yours to turn. If you find one false, say at which input.
  Laid BY PROGRAM, IN A SANDBOX (cutbox-rows.mjs): the forced cells as the released guide's own fill.sh prints them over the translation e9804315f49309ba… (all of the seat's roots in one cut). By AI agents, Wed Nov 11 2026. No macro, syntax, notation, axiom, sorry.
-/
import Derived.Test.YtkcbinohpdhbgaaChecked
import GoSem.Claim
import GoSem.ClaimJoined
import GoSem.ClaimMapViews
import Derived.JoinedTies
import Derived.KernelRfl
namespace Go.Proofs.Ytkcbinohpdhbgaa
/- THE CELL 'sum', in the pinned program and in every row, IS THE sha256 OF THE DUMP (.gsa) THAT YtkcbinohpdhbgaaProg.lean LOADS. Nothing in Lean hashes anything: it is a label: what it is worth is what the hold of that sum in a sandbox is worth. -/
noncomputable def Try.pinned : Pinned := { name := "ytkcbinohpdhbgaa", sum := "e9804315f49309badef9c00836b1de00130683fa77e5228e1cd2dedf6eae0311", checked := Try.checked }
namespace Rows
def none {H : Type} : Left H := { results := [], args := [] }

/-- 'laws.FnExactGroupFactors': WHATEVER THE INPUT: true; the input reads as it did. -/
def fnExactGroupFactorsSpec : ChangeSpec := { name := "fnExactGroupFactors", fn := fun _ => fun
  | [d] => { results := [.lit (.bool true)], args := [d] }
  | _ => none }
def fnExactGroupFactorsRow : OpenClaim := { program := "ytkcbinohpdhbgaa", sum := "e9804315f49309badef9c00836b1de00130683fa77e5228e1cd2dedf6eae0311", func := "loop.example/g00841/laws.FnExactGroupFactors", spec := "fnExactGroupFactors", unfollowed := true, recurses := true, apart := false }
def FnExactGroupFactorsSaid : Prop := fnExactGroupFactorsRow.holds Try.pinned (OpenSpec.ofChange fnExactGroupFactorsSpec)

/-- ITS FALSE NEIGHBOUR: 'it returns false'. Refute it at one input. -/
def fnExactGroupFactorsWrong : ChangeSpec := { name := "fnExactGroupFactors", fn := fun _ => fun
  | [d] => { results := [.lit (.bool false)], args := [d] }
  | _ => none }
def FnExactGroupFactorsWrongFalsely : Prop := fnExactGroupFactorsRow.holds Try.pinned (OpenSpec.ofChange fnExactGroupFactorsWrong)

/-- 'laws.FnExactIsCyclic': WHATEVER THE INPUT: true; the input reads as it did. -/
def fnExactIsCyclicSpec : ChangeSpec := { name := "fnExactIsCyclic", fn := fun _ => fun
  | [d] => { results := [.lit (.bool true)], args := [d] }
  | _ => none }
def fnExactIsCyclicRow : OpenClaim := { program := "ytkcbinohpdhbgaa", sum := "e9804315f49309badef9c00836b1de00130683fa77e5228e1cd2dedf6eae0311", func := "loop.example/g00841/laws.FnExactIsCyclic", spec := "fnExactIsCyclic", unfollowed := true, recurses := true, apart := false }
def FnExactIsCyclicSaid : Prop := fnExactIsCyclicRow.holds Try.pinned (OpenSpec.ofChange fnExactIsCyclicSpec)

/-- ITS FALSE NEIGHBOUR: 'it returns false'. Refute it at one input. -/
def fnExactIsCyclicWrong : ChangeSpec := { name := "fnExactIsCyclic", fn := fun _ => fun
  | [d] => { results := [.lit (.bool false)], args := [d] }
  | _ => none }
def FnExactIsCyclicWrongFalsely : Prop := fnExactIsCyclicRow.holds Try.pinned (OpenSpec.ofChange fnExactIsCyclicWrong)

/-- 'laws.FnOrders': WHATEVER THE INPUT: true; the input reads as it did. -/
def fnOrdersSpec : ChangeSpec := { name := "fnOrders", fn := fun _ => fun
  | [d] => { results := [.lit (.bool true)], args := [d] }
  | _ => none }
def fnOrdersRow : OpenClaim := { program := "ytkcbinohpdhbgaa", sum := "e9804315f49309badef9c00836b1de00130683fa77e5228e1cd2dedf6eae0311", func := "loop.example/g00841/laws.FnOrders", spec := "fnOrders", unfollowed := true, recurses := true, apart := false }
def FnOrdersSaid : Prop := fnOrdersRow.holds Try.pinned (OpenSpec.ofChange fnOrdersSpec)

/-- ITS FALSE NEIGHBOUR: 'it returns false'. Refute it at one input. -/
def fnOrdersWrong : ChangeSpec := { name := "fnOrders", fn := fun _ => fun
  | [d] => { results := [.lit (.bool false)], args := [d] }
  | _ => none }
def FnOrdersWrongFalsely : Prop := fnOrdersRow.holds Try.pinned (OpenSpec.ofChange fnOrdersWrong)

/-- 'laws.FnExactRowOfOne': WHATEVER THE INPUT: true; the input reads as it did. -/
def fnExactRowOfOneSpec : ChangeSpec := { name := "fnExactRowOfOne", fn := fun _ => fun
  | [d] => { results := [.lit (.bool true)], args := [d] }
  | _ => none }
def fnExactRowOfOneRow : OpenClaim := { program := "ytkcbinohpdhbgaa", sum := "e9804315f49309badef9c00836b1de00130683fa77e5228e1cd2dedf6eae0311", func := "loop.example/g00841/laws.FnExactRowOfOne", spec := "fnExactRowOfOne", apart := false }
def FnExactRowOfOneSaid : Prop := fnExactRowOfOneRow.holds Try.pinned (OpenSpec.ofChange fnExactRowOfOneSpec)

/-- ITS FALSE NEIGHBOUR: 'it returns false'. Refute it at one input. -/
def fnExactRowOfOneWrong : ChangeSpec := { name := "fnExactRowOfOne", fn := fun _ => fun
  | [d] => { results := [.lit (.bool false)], args := [d] }
  | _ => none }
def FnExactRowOfOneWrongFalsely : Prop := fnExactRowOfOneRow.holds Try.pinned (OpenSpec.ofChange fnExactRowOfOneWrong)

/- THE SECOND FORM. 'bulk': how many values and letters a reading holds, each counted each time it is reached (what is shared counts as often as it is met; a slice's spare places count too). A statement '..UptoSaid' is the law's where the arguments, and the package variables that the reading takes, are together of bulk at most 1048576: NARROWER than '..Said'. Prove '..Said' where nothing that the law and all that it calls make is longer than what came in: it says more and counts as full. Else prove '..UptoSaid'. A law counts once. -/
mutual
def uptoBulk {H : Type} : DataW H → Nat
  | .lit (.string bytes) => bytes.length + 1
  | .lit _ => 1
  | .nil => 1
  | .ptr d => uptoBulk d + 1
  | .slice elems spare => uptoBulkAll elems + uptoBulkAll spare + 1
  | .agg parts => uptoBulkAll parts + 1
  | .iface _ d => uptoBulk d + 1
  | .map entries => uptoBulkEntries entries + 1
  | .held _ => 1
def uptoBulkAll {H : Type} : List (DataW H) → Nat
  | [] => 0
  | d :: r => uptoBulk d + uptoBulkAll r
def uptoBulkEntries {H : Type} : List (Lit × DataW H) → Nat
  | [] => 0
  | x :: r => uptoBulkEntry x + uptoBulkEntries r
def uptoBulkEntry {H : Type} : Lit × DataW H → Nat
  | (.string bytes, d) => bytes.length + uptoBulk d + 1
  | (_, d) => uptoBulk d + 1
 end
def uptoSmall : (H : Type) → List (DataW H) → Bool := fun _ ds => decide (uptoBulkAll ds ≤ 1048576)
def OpenSpec.upto (s : _root_.Go.ChangeSpec) : _root_.Go.OpenSpec := { _root_.Go.OpenSpec.ofChange s with cond := some uptoSmall }

/-- 'laws.FnExactGroupFactors', WHERE WHAT IT READS IS OF BULK AT MOST 1048576: true; the input reads as it did. -/
def fnExactGroupFactorsUptoRow : OpenClaim := { program := "ytkcbinohpdhbgaa", sum := "e9804315f49309badef9c00836b1de00130683fa77e5228e1cd2dedf6eae0311", func := "loop.example/g00841/laws.FnExactGroupFactors", spec := "fnExactGroupFactors", unfollowed := true, recurses := true, apart := false, narrowed := true }
def FnExactGroupFactorsUptoSaid : Prop := fnExactGroupFactorsUptoRow.holds Try.pinned (OpenSpec.upto fnExactGroupFactorsSpec)

/-- 'laws.FnExactIsCyclic', WHERE WHAT IT READS IS OF BULK AT MOST 1048576: true; the input reads as it did. -/
def fnExactIsCyclicUptoRow : OpenClaim := { program := "ytkcbinohpdhbgaa", sum := "e9804315f49309badef9c00836b1de00130683fa77e5228e1cd2dedf6eae0311", func := "loop.example/g00841/laws.FnExactIsCyclic", spec := "fnExactIsCyclic", unfollowed := true, recurses := true, apart := false, narrowed := true }
def FnExactIsCyclicUptoSaid : Prop := fnExactIsCyclicUptoRow.holds Try.pinned (OpenSpec.upto fnExactIsCyclicSpec)

/-- 'laws.FnOrders', WHERE WHAT IT READS IS OF BULK AT MOST 1048576: true; the input reads as it did. -/
def fnOrdersUptoRow : OpenClaim := { program := "ytkcbinohpdhbgaa", sum := "e9804315f49309badef9c00836b1de00130683fa77e5228e1cd2dedf6eae0311", func := "loop.example/g00841/laws.FnOrders", spec := "fnOrders", unfollowed := true, recurses := true, apart := false, narrowed := true }
def FnOrdersUptoSaid : Prop := fnOrdersUptoRow.holds Try.pinned (OpenSpec.upto fnOrdersSpec)

/-- 'laws.FnExactRowOfOne', WHERE WHAT IT READS IS OF BULK AT MOST 1048576: true; the input reads as it did. -/
def fnExactRowOfOneUptoRow : OpenClaim := { program := "ytkcbinohpdhbgaa", sum := "e9804315f49309badef9c00836b1de00130683fa77e5228e1cd2dedf6eae0311", func := "loop.example/g00841/laws.FnExactRowOfOne", spec := "fnExactRowOfOne", apart := false, narrowed := true }
def FnExactRowOfOneUptoSaid : Prop := fnExactRowOfOneUptoRow.holds Try.pinned (OpenSpec.upto fnExactRowOfOneSpec)

end Rows
end Go.Proofs.Ytkcbinohpdhbgaa
