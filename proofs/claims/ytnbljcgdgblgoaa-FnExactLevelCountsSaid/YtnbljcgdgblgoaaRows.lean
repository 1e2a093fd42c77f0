/-
  No cell of these rows narrows 'for every input' (looked for: loops, veiled, ifaces, maps, wideKeys, modest, calm, conditions, laid).
  DERIVED. THE GIVEN ROWS OF THIS SEAT. 5 by the template 'for every input the law returns true; each argument reads behind the call as it read before'; 0 by the template 'total and deterministic' (their statements: YtnbljcgdgblgoaaTotals.lean).
  GIVEN WITH THE SEED: the statements are not yours to turn. If you find one false, say at which input.
  Laid BY PROGRAM, IN A SANDBOX (cutbox-rows.mjs): the forced cells as the released guide's own fill.sh prints them over the translation 994e9adbe9ca754b… (all of the seat's roots in one cut). By AI agents, Wed Nov 11 2026. No macro, syntax, notation, axiom, sorry.
-/
import Derived.Test.YtnbljcgdgblgoaaChecked
import GoSem.Claim
import GoSem.ClaimJoined
import GoSem.ClaimMapViews
import Derived.JoinedTies
import Derived.KernelRfl
namespace Go.Proofs.Ytnbljcgdgblgoaa
/- THE CELL 'sum', in the pinned program and in every row, IS THE sha256 OF THE DUMP (.gsa) THAT YtnbljcgdgblgoaaProg.lean LOADS. Nothing in Lean hashes anything: it is a label: what it is worth is what the hold of that sum in a sandbox is worth. -/
noncomputable def Try.pinned : Pinned := { name := "ytnbljcgdgblgoaa", sum := "994e9adbe9ca754b80af5efa1fc7311f7662d58bdbb0a72af7573f8557b4eca7", checked := Try.checked }
namespace Rows
def none {H : Type} : Left H := { results := [], args := [] }

/-- 'laws.FnParking': WHATEVER THE INPUT: true; the input reads as it did. -/
def fnParkingSpec : ChangeSpec := { name := "fnParking", fn := fun _ => fun
  | [d] => { results := [.lit (.bool true)], args := [d] }
  | _ => none }
def fnParkingRow : OpenClaim := { program := "ytnbljcgdgblgoaa", sum := "994e9adbe9ca754b80af5efa1fc7311f7662d58bdbb0a72af7573f8557b4eca7", func := "loop.example/g00841/laws.FnParking", spec := "fnParking", unfollowed := true, recurses := true, apart := false }
def FnParkingSaid : Prop := fnParkingRow.holds Try.pinned (OpenSpec.ofChange fnParkingSpec)

/-- ITS FALSE NEIGHBOUR: 'it returns false'. Refute it at one input. -/
def fnParkingWrong : ChangeSpec := { name := "fnParking", fn := fun _ => fun
  | [d] => { results := [.lit (.bool false)], args := [d] }
  | _ => none }
def FnParkingWrongFalsely : Prop := fnParkingRow.holds Try.pinned (OpenSpec.ofChange fnParkingWrong)

/-- 'laws.FnExactParkingsOf': WHATEVER THE INPUT: true; the input reads as it did. -/
def fnExactParkingsOfSpec : ChangeSpec := { name := "fnExactParkingsOf", fn := fun _ => fun
  | [d1, d2] => { results := [.lit (.bool true)], args := [d1, d2] }
  | _ => none }
def fnExactParkingsOfRow : OpenClaim := { program := "ytnbljcgdgblgoaa", sum := "994e9adbe9ca754b80af5efa1fc7311f7662d58bdbb0a72af7573f8557b4eca7", func := "loop.example/g00841/laws.FnExactParkingsOf", spec := "fnExactParkingsOf", unfollowed := true, recurses := true, apart := false }
def FnExactParkingsOfSaid : Prop := fnExactParkingsOfRow.holds Try.pinned (OpenSpec.ofChange fnExactParkingsOfSpec)

/-- ITS FALSE NEIGHBOUR: 'it returns false'. Refute it at one input. -/
def fnExactParkingsOfWrong : ChangeSpec := { name := "fnExactParkingsOf", fn := fun _ => fun
  | [d1, d2] => { results := [.lit (.bool false)], args := [d1, d2] }
  | _ => none }
def FnExactParkingsOfWrongFalsely : Prop := fnExactParkingsOfRow.holds Try.pinned (OpenSpec.ofChange fnExactParkingsOfWrong)

/-- 'laws.FnExactClassesOf': WHATEVER THE INPUT: true; the input reads as it did. -/
def fnExactClassesOfSpec : ChangeSpec := { name := "fnExactClassesOf", fn := fun _ => fun
  | [d] => { results := [.lit (.bool true)], args := [d] }
  | _ => none }
def fnExactClassesOfRow : OpenClaim := { program := "ytnbljcgdgblgoaa", sum := "994e9adbe9ca754b80af5efa1fc7311f7662d58bdbb0a72af7573f8557b4eca7", func := "loop.example/g00841/laws.FnExactClassesOf", spec := "fnExactClassesOf", unfollowed := true, recurses := true, apart := false }
def FnExactClassesOfSaid : Prop := fnExactClassesOfRow.holds Try.pinned (OpenSpec.ofChange fnExactClassesOfSpec)

/-- ITS FALSE NEIGHBOUR: 'it returns false'. Refute it at one input. -/
def fnExactClassesOfWrong : ChangeSpec := { name := "fnExactClassesOf", fn := fun _ => fun
  | [d] => { results := [.lit (.bool false)], args := [d] }
  | _ => none }
def FnExactClassesOfWrongFalsely : Prop := fnExactClassesOfRow.holds Try.pinned (OpenSpec.ofChange fnExactClassesOfWrong)

/-- 'laws.FnExactRecurrentPiles': WHATEVER THE INPUT: true; the input reads as it did. -/
def fnExactRecurrentPilesSpec : ChangeSpec := { name := "fnExactRecurrentPiles", fn := fun _ => fun
  | [d1, d2] => { results := [.lit (.bool true)], args := [d1, d2] }
  | _ => none }
def fnExactRecurrentPilesRow : OpenClaim := { program := "ytnbljcgdgblgoaa", sum := "994e9adbe9ca754b80af5efa1fc7311f7662d58bdbb0a72af7573f8557b4eca7", func := "loop.example/g00841/laws.FnExactRecurrentPiles", spec := "fnExactRecurrentPiles", unfollowed := true, recurses := true, apart := false }
def FnExactRecurrentPilesSaid : Prop := fnExactRecurrentPilesRow.holds Try.pinned (OpenSpec.ofChange fnExactRecurrentPilesSpec)

/-- ITS FALSE NEIGHBOUR: 'it returns false'. Refute it at one input. -/
def fnExactRecurrentPilesWrong : ChangeSpec := { name := "fnExactRecurrentPiles", fn := fun _ => fun
  | [d1, d2] => { results := [.lit (.bool false)], args := [d1, d2] }
  | _ => none }
def FnExactRecurrentPilesWrongFalsely : Prop := fnExactRecurrentPilesRow.holds Try.pinned (OpenSpec.ofChange fnExactRecurrentPilesWrong)

/-- 'laws.FnExactLevelCounts': WHATEVER THE INPUT: true; the input reads as it did. -/
def fnExactLevelCountsSpec : ChangeSpec := { name := "fnExactLevelCounts", fn := fun _ => fun
  | [d1, d2] => { results := [.lit (.bool true)], args := [d1, d2] }
  | _ => none }
def fnExactLevelCountsRow : OpenClaim := { program := "ytnbljcgdgblgoaa", sum := "994e9adbe9ca754b80af5efa1fc7311f7662d58bdbb0a72af7573f8557b4eca7", func := "loop.example/g00841/laws.FnExactLevelCounts", spec := "fnExactLevelCounts", unfollowed := true, recurses := true, apart := false }
def FnExactLevelCountsSaid : Prop := fnExactLevelCountsRow.holds Try.pinned (OpenSpec.ofChange fnExactLevelCountsSpec)

/-- ITS FALSE NEIGHBOUR: 'it returns false'. Refute it at one input. -/
def fnExactLevelCountsWrong : ChangeSpec := { name := "fnExactLevelCounts", fn := fun _ => fun
  | [d1, d2] => { results := [.lit (.bool false)], args := [d1, d2] }
  | _ => none }
def FnExactLevelCountsWrongFalsely : Prop := fnExactLevelCountsRow.holds Try.pinned (OpenSpec.ofChange fnExactLevelCountsWrong)

/- THE SECOND FORM. 'bulk': how many values and letters a reading holds, each counted each time it is reached (what is shared counts as often as it is met; a slice's spare places count too). A statement '..UptoSaid' is the law's where the arguments, and the package variables that the reading takes, are together of bulk at most 1048576: NARROWER than '..Said'. Prove '..Said' where nothing that the law and all that it calls make is longer than what came in: it says more and counts as full. Else prove '..UptoSaid'. A law counts once. -/
mutual
def uptoBulk {H : Type} : DataW H → Nat
  | .lit (.string bytes) => bytes.length + 1
  | .lit _ => 1
  | .nil => 1
  | .ptr d => uptoBulk d + 1
  | .slice elems spare => uptoBulkAll elems + uptoBulkAll spare + 1
  | .agg parts => uptoBulkAll parts + 1
  | .iface _ d => uptoBulk d + 1
  | .map entries => uptoBulkEntries entries + 1
  | .held _ => 1
def uptoBulkAll {H : Type} : List (DataW H) → Nat
  | [] => 0
  | d :: r => uptoBulk d + uptoBulkAll r
def uptoBulkEntries {H : Type} : List (Lit × DataW H) → Nat
  | [] => 0
  | x :: r => uptoBulkEntry x + uptoBulkEntries r
def uptoBulkEntry {H : Type} : Lit × DataW H → Nat
  | (.string bytes, d) => bytes.length + uptoBulk d + 1
  | (_, d) => uptoBulk d + 1
 end
def uptoSmall : (H : Type) → List (DataW H) → Bool := fun _ ds => decide (uptoBulkAll ds ≤ 1048576)
def OpenSpec.upto (s : _root_.Go.ChangeSpec) : _root_.Go.OpenSpec := { _root_.Go.OpenSpec.ofChange s with cond := some uptoSmall }

/-- 'laws.FnParking', WHERE WHAT IT READS IS OF BULK AT MOST 1048576: true; the input reads as it did. -/
def fnParkingUptoRow : OpenClaim := { program := "ytnbljcgdgblgoaa", sum := "994e9adbe9ca754b80af5efa1fc7311f7662d58bdbb0a72af7573f8557b4eca7", func := "loop.example/g00841/laws.FnParking", spec := "fnParking", unfollowed := true, recurses := true, apart := false, narrowed := true }
def FnParkingUptoSaid : Prop := fnParkingUptoRow.holds Try.pinned (OpenSpec.upto fnParkingSpec)

/-- 'laws.FnExactParkingsOf', WHERE WHAT IT READS IS OF BULK AT MOST 1048576: true; the input reads as it did. -/
def fnExactParkingsOfUptoRow : OpenClaim := { program := "ytnbljcgdgblgoaa", sum := "994e9adbe9ca754b80af5efa1fc7311f7662d58bdbb0a72af7573f8557b4eca7", func := "loop.example/g00841/laws.FnExactParkingsOf", spec := "fnExactParkingsOf", unfollowed := true, recurses := true, apart := false, narrowed := true }
def FnExactParkingsOfUptoSaid : Prop := fnExactParkingsOfUptoRow.holds Try.pinned (OpenSpec.upto fnExactParkingsOfSpec)

/-- 'laws.FnExactClassesOf', WHERE WHAT IT READS IS OF BULK AT MOST 1048576: true; the input reads as it did. -/
def fnExactClassesOfUptoRow : OpenClaim := { program := "ytnbljcgdgblgoaa", sum := "994e9adbe9ca754b80af5efa1fc7311f7662d58bdbb0a72af7573f8557b4eca7", func := "loop.example/g00841/laws.FnExactClassesOf", spec := "fnExactClassesOf", unfollowed := true, recurses := true, apart := false, narrowed := true }
def FnExactClassesOfUptoSaid : Prop := fnExactClassesOfUptoRow.holds Try.pinned (OpenSpec.upto fnExactClassesOfSpec)

/-- 'laws.FnExactRecurrentPiles', WHERE WHAT IT READS IS OF BULK AT MOST 1048576: true; the input reads as it did. -/
def fnExactRecurrentPilesUptoRow : OpenClaim := { program := "ytnbljcgdgblgoaa", sum := "994e9adbe9ca754b80af5efa1fc7311f7662d58bdbb0a72af7573f8557b4eca7", func := "loop.example/g00841/laws.FnExactRecurrentPiles", spec := "fnExactRecurrentPiles", unfollowed := true, recurses := true, apart := false, narrowed := true }
def FnExactRecurrentPilesUptoSaid : Prop := fnExactRecurrentPilesUptoRow.holds Try.pinned (OpenSpec.upto fnExactRecurrentPilesSpec)

/-- 'laws.FnExactLevelCounts', WHERE WHAT IT READS IS OF BULK AT MOST 1048576: true; the input reads as it did. -/
def fnExactLevelCountsUptoRow : OpenClaim := { program := "ytnbljcgdgblgoaa", sum := "994e9adbe9ca754b80af5efa1fc7311f7662d58bdbb0a72af7573f8557b4eca7", func := "loop.example/g00841/laws.FnExactLevelCounts", spec := "fnExactLevelCounts", unfollowed := true, recurses := true, apart := false, narrowed := true }
def FnExactLevelCountsUptoSaid : Prop := fnExactLevelCountsUptoRow.holds Try.pinned (OpenSpec.upto fnExactLevelCountsSpec)

end Rows
end Go.Proofs.Ytnbljcgdgblgoaa
