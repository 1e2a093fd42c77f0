/- A part of the proof of FnExactTimesClass. -/
import Derived.Test.YtgobnfeahffnaabBFnExactTimesClassWTab
namespace Go.Proofs.YtgobnfeahffnaabW.PrintLast
/-- Number i is listed too. -/
def up (b : Nat → Bool) (i : Nat) : Nat → Bool := fun j => if j = i then true else b j
end Go.Proofs.YtgobnfeahffnaabW.PrintLast
