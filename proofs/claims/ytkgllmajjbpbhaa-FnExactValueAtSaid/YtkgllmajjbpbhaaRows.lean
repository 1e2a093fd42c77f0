/-
  No cell of these rows narrows 'for every input' (looked for: loops, veiled, ifaces, maps, wideKeys, modest, calm, conditions, laid).
  DERIVED. THE GIVEN ROWS OF THIS SEAT. 4 by the template 'for every input the law returns true; each argument reads behind the call as it read before'; 0 by the template 'total and deterministic' (their statements: YtkgllmajjbpbhaaTotals.lean).
  GIVEN WITH THE SEED: the statements are not yours to turn. If you find one false, say at which input.
  Laid BY PROGRAM, IN A SANDBOX (cutbox-rows.mjs): the forced cells as the released guide's own fill.sh prints them over the translation 84beb0fc2fc2482c… (all of the seat's roots in one cut). By AI agents, Wed Nov 11 2026. No macro, syntax, notation, axiom, sorry.
-/
import Derived.Test.YtkgllmajjbpbhaaChecked
import GoSem.Claim
import GoSem.ClaimJoined
import GoSem.ClaimMapViews
import Derived.JoinedTies
import Derived.KernelRfl
namespace Go.Proofs.Ytkgllmajjbpbhaa
/- THE CELL 'sum', in the pinned program and in every row, IS THE sha256 OF THE DUMP (.gsa) THAT YtkgllmajjbpbhaaProg.lean LOADS. Nothing in Lean hashes anything: it is a label: what it is worth is what the hold of that sum in a sandbox is worth. -/
noncomputable def Try.pinned : Pinned := { name := "ytkgllmajjbpbhaa", sum := "84beb0fc2fc2482c20488ed6f78169ec7e57a50f4046198682f7a8fedea70c49", checked := Try.checked }
namespace Rows
def none {H : Type} : Left H := { results := [], args := [] }

/-- 'laws.FnExactReverseOrient': WHATEVER THE INPUT: true; the input reads as it did. -/
def fnExactReverseOrientSpec : ChangeSpec := { name := "fnExactReverseOrient", fn := fun _ => fun
  | [d] => { results := [.lit (.bool true)], args := [d] }
  | _ => none }
def fnExactReverseOrientRow : OpenClaim := { program := "ytkgllmajjbpbhaa", sum := "84beb0fc2fc2482c20488ed6f78169ec7e57a50f4046198682f7a8fedea70c49", func := "loop.example/g00841/laws.FnExactReverseOrient", spec := "fnExactReverseOrient", apart := false }
def FnExactReverseOrientSaid : Prop := fnExactReverseOrientRow.holds Try.pinned (OpenSpec.ofChange fnExactReverseOrientSpec)

/-- ITS FALSE NEIGHBOUR: 'it returns false'. Refute it at one input. -/
def fnExactReverseOrientWrong : ChangeSpec := { name := "fnExactReverseOrient", fn := fun _ => fun
  | [d] => { results := [.lit (.bool false)], args := [d] }
  | _ => none }
def FnExactReverseOrientWrongFalsely : Prop := fnExactReverseOrientRow.holds Try.pinned (OpenSpec.ofChange fnExactReverseOrientWrong)

/-- 'laws.FnExactValueAt': WHATEVER THE INPUT: true; the input reads as it did. -/
def fnExactValueAtSpec : ChangeSpec := { name := "fnExactValueAt", fn := fun _ => fun
  | [d1, d2, d3] => { results := [.lit (.bool true)], args := [d1, d2, d3] }
  | _ => none }
def fnExactValueAtRow : OpenClaim := { program := "ytkgllmajjbpbhaa", sum := "84beb0fc2fc2482c20488ed6f78169ec7e57a50f4046198682f7a8fedea70c49", func := "loop.example/g00841/laws.FnExactValueAt", spec := "fnExactValueAt", apart := false }
def FnExactValueAtSaid : Prop := fnExactValueAtRow.holds Try.pinned (OpenSpec.ofChange fnExactValueAtSpec)

/-- ITS FALSE NEIGHBOUR: 'it returns false'. Refute it at one input. -/
def fnExactValueAtWrong : ChangeSpec := { name := "fnExactValueAt", fn := fun _ => fun
  | [d1, d2, d3] => { results := [.lit (.bool false)], args := [d1, d2, d3] }
  | _ => none }
def FnExactValueAtWrongFalsely : Prop := fnExactValueAtRow.holds Try.pinned (OpenSpec.ofChange fnExactValueAtWrong)

/-- 'laws.FnExactRowOfOne': WHATEVER THE INPUT: true; the input reads as it did. -/
def fnExactRowOfOneSpec : ChangeSpec := { name := "fnExactRowOfOne", fn := fun _ => fun
  | [d] => { results := [.lit (.bool true)], args := [d] }
  | _ => none }
def fnExactRowOfOneRow : OpenClaim := { program := "ytkgllmajjbpbhaa", sum := "84beb0fc2fc2482c20488ed6f78169ec7e57a50f4046198682f7a8fedea70c49", func := "loop.example/g00841/laws.FnExactRowOfOne", spec := "fnExactRowOfOne", apart := false }
def FnExactRowOfOneSaid : Prop := fnExactRowOfOneRow.holds Try.pinned (OpenSpec.ofChange fnExactRowOfOneSpec)

/-- ITS FALSE NEIGHBOUR: 'it returns false'. Refute it at one input. -/
def fnExactRowOfOneWrong : ChangeSpec := { name := "fnExactRowOfOne", fn := fun _ => fun
  | [d] => { results := [.lit (.bool false)], args := [d] }
  | _ => none }
def FnExactRowOfOneWrongFalsely : Prop := fnExactRowOfOneRow.holds Try.pinned (OpenSpec.ofChange fnExactRowOfOneWrong)

/-- 'laws.FnExactNextRotor': WHATEVER THE INPUT: true; the input reads as it did. -/
def fnExactNextRotorSpec : ChangeSpec := { name := "fnExactNextRotor", fn := fun _ => fun
  | [d1, d2, d3] => { results := [.lit (.bool true)], args := [d1, d2, d3] }
  | _ => none }
def fnExactNextRotorRow : OpenClaim := { program := "ytkgllmajjbpbhaa", sum := "84beb0fc2fc2482c20488ed6f78169ec7e57a50f4046198682f7a8fedea70c49", func := "loop.example/g00841/laws.FnExactNextRotor", spec := "fnExactNextRotor", unfollowed := true, recurses := true, apart := false }
def FnExactNextRotorSaid : Prop := fnExactNextRotorRow.holds Try.pinned (OpenSpec.ofChange fnExactNextRotorSpec)

/-- ITS FALSE NEIGHBOUR: 'it returns false'. Refute it at one input. -/
def fnExactNextRotorWrong : ChangeSpec := { name := "fnExactNextRotor", fn := fun _ => fun
  | [d1, d2, d3] => { results := [.lit (.bool false)], args := [d1, d2, d3] }
  | _ => none }
def FnExactNextRotorWrongFalsely : Prop := fnExactNextRotorRow.holds Try.pinned (OpenSpec.ofChange fnExactNextRotorWrong)

/- THE SECOND FORM. 'bulk': how many values and letters a reading holds, each counted each time it is reached (what is shared counts as often as it is met; a slice's spare places count too). A statement '..UptoSaid' is the law's where the arguments, and the package variables that the reading takes, are together of bulk at most 1048576: NARROWER than '..Said'. Prove '..Said' where nothing that the law and all that it calls make is longer than what came in: it says more and counts as full. Else prove '..UptoSaid'. A law counts once. -/
mutual
def uptoBulk {H : Type} : DataW H → Nat
  | .lit (.string bytes) => bytes.length + 1
  | .lit _ => 1
  | .nil => 1
  | .ptr d => uptoBulk d + 1
  | .slice elems spare => uptoBulkAll elems + uptoBulkAll spare + 1
  | .agg parts => uptoBulkAll parts + 1
  | .iface _ d => uptoBulk d + 1
  | .map entries => uptoBulkEntries entries + 1
  | .held _ => 1
def uptoBulkAll {H : Type} : List (DataW H) → Nat
  | [] => 0
  | d :: r => uptoBulk d + uptoBulkAll r
def uptoBulkEntries {H : Type} : List (Lit × DataW H) → Nat
  | [] => 0
  | x :: r => uptoBulkEntry x + uptoBulkEntries r
def uptoBulkEntry {H : Type} : Lit × DataW H → Nat
  | (.string bytes, d) => bytes.length + uptoBulk d + 1
  | (_, d) => uptoBulk d + 1
 end
def uptoSmall : (H : Type) → List (DataW H) → Bool := fun _ ds => decide (uptoBulkAll ds ≤ 1048576)
def OpenSpec.upto (s : _root_.Go.ChangeSpec) : _root_.Go.OpenSpec := { _root_.Go.OpenSpec.ofChange s with cond := some uptoSmall }

/-- 'laws.FnExactReverseOrient', WHERE WHAT IT READS IS OF BULK AT MOST 1048576: true; the input reads as it did. -/
def fnExactReverseOrientUptoRow : OpenClaim := { program := "ytkgllmajjbpbhaa", sum := "84beb0fc2fc2482c20488ed6f78169ec7e57a50f4046198682f7a8fedea70c49", func := "loop.example/g00841/laws.FnExactReverseOrient", spec := "fnExactReverseOrient", apart := false, narrowed := true }
def FnExactReverseOrientUptoSaid : Prop := fnExactReverseOrientUptoRow.holds Try.pinned (OpenSpec.upto fnExactReverseOrientSpec)

/-- 'laws.FnExactValueAt', WHERE WHAT IT READS IS OF BULK AT MOST 1048576: true; the input reads as it did. -/
def fnExactValueAtUptoRow : OpenClaim := { program := "ytkgllmajjbpbhaa", sum := "84beb0fc2fc2482c20488ed6f78169ec7e57a50f4046198682f7a8fedea70c49", func := "loop.example/g00841/laws.FnExactValueAt", spec := "fnExactValueAt", apart := false, narrowed := true }
def FnExactValueAtUptoSaid : Prop := fnExactValueAtUptoRow.holds Try.pinned (OpenSpec.upto fnExactValueAtSpec)

/-- 'laws.FnExactRowOfOne', WHERE WHAT IT READS IS OF BULK AT MOST 1048576: true; the input reads as it did. -/
def fnExactRowOfOneUptoRow : OpenClaim := { program := "ytkgllmajjbpbhaa", sum := "84beb0fc2fc2482c20488ed6f78169ec7e57a50f4046198682f7a8fedea70c49", func := "loop.example/g00841/laws.FnExactRowOfOne", spec := "fnExactRowOfOne", apart := false, narrowed := true }
def FnExactRowOfOneUptoSaid : Prop := fnExactRowOfOneUptoRow.holds Try.pinned (OpenSpec.upto fnExactRowOfOneSpec)

/-- 'laws.FnExactNextRotor', WHERE WHAT IT READS IS OF BULK AT MOST 1048576: true; the input reads as it did. -/
def fnExactNextRotorUptoRow : OpenClaim := { program := "ytkgllmajjbpbhaa", sum := "84beb0fc2fc2482c20488ed6f78169ec7e57a50f4046198682f7a8fedea70c49", func := "loop.example/g00841/laws.FnExactNextRotor", spec := "fnExactNextRotor", unfollowed := true, recurses := true, apart := false, narrowed := true }
def FnExactNextRotorUptoSaid : Prop := fnExactNextRotorUptoRow.holds Try.pinned (OpenSpec.upto fnExactNextRotorSpec)

end Rows
end Go.Proofs.Ytkgllmajjbpbhaa
