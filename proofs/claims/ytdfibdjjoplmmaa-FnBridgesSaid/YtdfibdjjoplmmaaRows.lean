/-
  No cell of these rows narrows 'for every input' (looked for: loops, veiled, ifaces, maps, wideKeys, modest, calm, conditions, laid).
  DERIVED. THE GIVEN ROWS OF THIS SEAT. 4 by the template 'for every input the law returns true; each argument reads behind the call as it read before'; 0 by the template 'total and deterministic' (their statements: YtdfibdjjoplmmaaTotals.lean).
  GIVEN WITH THE SEED: the statements are not yours to turn. If you find one false, say at which input.
  Laid BY PROGRAM, IN A SANDBOX (cutbox-rows.mjs): the forced cells as the released guide's own fill.sh prints them over the translation e41af2e2c28a2475… (all of the seat's roots in one cut). By AI agents, Wed Nov 11 2026. No macro, syntax, notation, axiom, sorry.
-/
import Derived.Test.YtdfibdjjoplmmaaChecked
import GoSem.Claim
import GoSem.ClaimJoined
import GoSem.ClaimMapViews
import Derived.JoinedTies
import Derived.KernelRfl
namespace Go.Proofs.Ytdfibdjjoplmmaa
/- THE CELL 'sum', in the pinned program and in every row, IS THE sha256 OF THE DUMP (.gsa) THAT YtdfibdjjoplmmaaProg.lean LOADS. Nothing in Lean hashes anything: it is a label: what it is worth is what the hold of that sum in a sandbox is worth. -/
noncomputable def Try.pinned : Pinned := { name := "ytdfibdjjoplmmaa", sum := "e41af2e2c28a2475f7c6893daf2b75a4d455e76c7e7ceadfea1e3897d33192d6", checked := Try.checked }
namespace Rows
def none {H : Type} : Left H := { results := [], args := [] }

/-- 'laws.FnExactTutteOf': WHATEVER THE INPUT: true; the input reads as it did. -/
def fnExactTutteOfSpec : ChangeSpec := { name := "fnExactTutteOf", fn := fun _ => fun
  | [d] => { results := [.lit (.bool true)], args := [d] }
  | _ => none }
def fnExactTutteOfRow : OpenClaim := { program := "ytdfibdjjoplmmaa", sum := "e41af2e2c28a2475f7c6893daf2b75a4d455e76c7e7ceadfea1e3897d33192d6", func := "loop.example/g00841/laws.FnExactTutteOf", spec := "fnExactTutteOf", unfollowed := true, recurses := true, apart := false }
def FnExactTutteOfSaid : Prop := fnExactTutteOfRow.holds Try.pinned (OpenSpec.ofChange fnExactTutteOfSpec)

/-- ITS FALSE NEIGHBOUR: 'it returns false'. Refute it at one input. -/
def fnExactTutteOfWrong : ChangeSpec := { name := "fnExactTutteOf", fn := fun _ => fun
  | [d] => { results := [.lit (.bool false)], args := [d] }
  | _ => none }
def FnExactTutteOfWrongFalsely : Prop := fnExactTutteOfRow.holds Try.pinned (OpenSpec.ofChange fnExactTutteOfWrong)

/-- 'laws.FnBridges': WHATEVER THE INPUT: true; the input reads as it did. -/
def fnBridgesSpec : ChangeSpec := { name := "fnBridges", fn := fun _ => fun
  | [d] => { results := [.lit (.bool true)], args := [d] }
  | _ => none }
def fnBridgesRow : OpenClaim := { program := "ytdfibdjjoplmmaa", sum := "e41af2e2c28a2475f7c6893daf2b75a4d455e76c7e7ceadfea1e3897d33192d6", func := "loop.example/g00841/laws.FnBridges", spec := "fnBridges", unfollowed := true, recurses := true, apart := false }
def FnBridgesSaid : Prop := fnBridgesRow.holds Try.pinned (OpenSpec.ofChange fnBridgesSpec)

/-- ITS FALSE NEIGHBOUR: 'it returns false'. Refute it at one input. -/
def fnBridgesWrong : ChangeSpec := { name := "fnBridges", fn := fun _ => fun
  | [d] => { results := [.lit (.bool false)], args := [d] }
  | _ => none }
def FnBridgesWrongFalsely : Prop := fnBridgesRow.holds Try.pinned (OpenSpec.ofChange fnBridgesWrong)

/-- 'laws.FnExactTreesOf': WHATEVER THE INPUT: true; the input reads as it did. -/
def fnExactTreesOfSpec : ChangeSpec := { name := "fnExactTreesOf", fn := fun _ => fun
  | [d] => { results := [.lit (.bool true)], args := [d] }
  | _ => none }
def fnExactTreesOfRow : OpenClaim := { program := "ytdfibdjjoplmmaa", sum := "e41af2e2c28a2475f7c6893daf2b75a4d455e76c7e7ceadfea1e3897d33192d6", func := "loop.example/g00841/laws.FnExactTreesOf", spec := "fnExactTreesOf", unfollowed := true, recurses := true, apart := false }
def FnExactTreesOfSaid : Prop := fnExactTreesOfRow.holds Try.pinned (OpenSpec.ofChange fnExactTreesOfSpec)

/-- ITS FALSE NEIGHBOUR: 'it returns false'. Refute it at one input. -/
def fnExactTreesOfWrong : ChangeSpec := { name := "fnExactTreesOf", fn := fun _ => fun
  | [d] => { results := [.lit (.bool false)], args := [d] }
  | _ => none }
def FnExactTreesOfWrongFalsely : Prop := fnExactTreesOfRow.holds Try.pinned (OpenSpec.ofChange fnExactTreesOfWrong)

/-- 'laws.FnTrees': WHATEVER THE INPUT: true; the input reads as it did. -/
def fnTreesSpec : ChangeSpec := { name := "fnTrees", fn := fun _ => fun
  | [d] => { results := [.lit (.bool true)], args := [d] }
  | _ => none }
def fnTreesRow : OpenClaim := { program := "ytdfibdjjoplmmaa", sum := "e41af2e2c28a2475f7c6893daf2b75a4d455e76c7e7ceadfea1e3897d33192d6", func := "loop.example/g00841/laws.FnTrees", spec := "fnTrees", unfollowed := true, recurses := true, apart := false }
def FnTreesSaid : Prop := fnTreesRow.holds Try.pinned (OpenSpec.ofChange fnTreesSpec)

/-- ITS FALSE NEIGHBOUR: 'it returns false'. Refute it at one input. -/
def fnTreesWrong : ChangeSpec := { name := "fnTrees", fn := fun _ => fun
  | [d] => { results := [.lit (.bool false)], args := [d] }
  | _ => none }
def FnTreesWrongFalsely : Prop := fnTreesRow.holds Try.pinned (OpenSpec.ofChange fnTreesWrong)

/- THE SECOND FORM. 'bulk': how many values and letters a reading holds, each counted each time it is reached (what is shared counts as often as it is met; a slice's spare places count too). A statement '..UptoSaid' is the law's where the arguments, and the package variables that the reading takes, are together of bulk at most 1048576: NARROWER than '..Said'. Prove '..Said' where nothing that the law and all that it calls make is longer than what came in: it says more and counts as full. Else prove '..UptoSaid'. A law counts once. -/
mutual
def uptoBulk {H : Type} : DataW H → Nat
  | .lit (.string bytes) => bytes.length + 1
  | .lit _ => 1
  | .nil => 1
  | .ptr d => uptoBulk d + 1
  | .slice elems spare => uptoBulkAll elems + uptoBulkAll spare + 1
  | .agg parts => uptoBulkAll parts + 1
  | .iface _ d => uptoBulk d + 1
  | .map entries => uptoBulkEntries entries + 1
  | .held _ => 1
def uptoBulkAll {H : Type} : List (DataW H) → Nat
  | [] => 0
  | d :: r => uptoBulk d + uptoBulkAll r
def uptoBulkEntries {H : Type} : List (Lit × DataW H) → Nat
  | [] => 0
  | x :: r => uptoBulkEntry x + uptoBulkEntries r
def uptoBulkEntry {H : Type} : Lit × DataW H → Nat
  | (.string bytes, d) => bytes.length + uptoBulk d + 1
  | (_, d) => uptoBulk d + 1
 end
def uptoSmall : (H : Type) → List (DataW H) → Bool := fun _ ds => decide (uptoBulkAll ds ≤ 1048576)
def OpenSpec.upto (s : _root_.Go.ChangeSpec) : _root_.Go.OpenSpec := { _root_.Go.OpenSpec.ofChange s with cond := some uptoSmall }

/-- 'laws.FnExactTutteOf', WHERE WHAT IT READS IS OF BULK AT MOST 1048576: true; the input reads as it did. -/
def fnExactTutteOfUptoRow : OpenClaim := { program := "ytdfibdjjoplmmaa", sum := "e41af2e2c28a2475f7c6893daf2b75a4d455e76c7e7ceadfea1e3897d33192d6", func := "loop.example/g00841/laws.FnExactTutteOf", spec := "fnExactTutteOf", unfollowed := true, recurses := true, apart := false, narrowed := true }
def FnExactTutteOfUptoSaid : Prop := fnExactTutteOfUptoRow.holds Try.pinned (OpenSpec.upto fnExactTutteOfSpec)

/-- 'laws.FnBridges', WHERE WHAT IT READS IS OF BULK AT MOST 1048576: true; the input reads as it did. -/
def fnBridgesUptoRow : OpenClaim := { program := "ytdfibdjjoplmmaa", sum := "e41af2e2c28a2475f7c6893daf2b75a4d455e76c7e7ceadfea1e3897d33192d6", func := "loop.example/g00841/laws.FnBridges", spec := "fnBridges", unfollowed := true, recurses := true, apart := false, narrowed := true }
def FnBridgesUptoSaid : Prop := fnBridgesUptoRow.holds Try.pinned (OpenSpec.upto fnBridgesSpec)

/-- 'laws.FnExactTreesOf', WHERE WHAT IT READS IS OF BULK AT MOST 1048576: true; the input reads as it did. -/
def fnExactTreesOfUptoRow : OpenClaim := { program := "ytdfibdjjoplmmaa", sum := "e41af2e2c28a2475f7c6893daf2b75a4d455e76c7e7ceadfea1e3897d33192d6", func := "loop.example/g00841/laws.FnExactTreesOf", spec := "fnExactTreesOf", unfollowed := true, recurses := true, apart := false, narrowed := true }
def FnExactTreesOfUptoSaid : Prop := fnExactTreesOfUptoRow.holds Try.pinned (OpenSpec.upto fnExactTreesOfSpec)

/-- 'laws.FnTrees', WHERE WHAT IT READS IS OF BULK AT MOST 1048576: true; the input reads as it did. -/
def fnTreesUptoRow : OpenClaim := { program := "ytdfibdjjoplmmaa", sum := "e41af2e2c28a2475f7c6893daf2b75a4d455e76c7e7ceadfea1e3897d33192d6", func := "loop.example/g00841/laws.FnTrees", spec := "fnTrees", unfollowed := true, recurses := true, apart := false, narrowed := true }
def FnTreesUptoSaid : Prop := fnTreesUptoRow.holds Try.pinned (OpenSpec.upto fnTreesSpec)

end Rows
end Go.Proofs.Ytdfibdjjoplmmaa
