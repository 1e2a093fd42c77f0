/- A part of the proof of FnExactBridgesOf. -/
import Derived.Test.YtlohemdlahafcaaBFnExactBridgesOfWTab
namespace Go.Proofs.YtlohemdlahafcaaW.PrintLast
/-- Number i is listed too. -/
def up (b : Nat → Bool) (i : Nat) : Nat → Bool := fun j => if j = i then true else b j
end Go.Proofs.YtlohemdlahafcaaW.PrintLast
