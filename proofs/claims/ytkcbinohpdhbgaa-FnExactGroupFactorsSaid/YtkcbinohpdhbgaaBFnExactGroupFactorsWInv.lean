/- A part of the proof of FnExactGroupFactors. -/
import Derived.Test.YtkcbinohpdhbgaaBFnExactGroupFactorsWTab
namespace Go.Proofs.YtkcbinohpdhbgaaW.PrintLast
/-- Number i is listed too. -/
def up (b : Nat → Bool) (i : Nat) : Nat → Bool := fun j => if j = i then true else b j
end Go.Proofs.YtkcbinohpdhbgaaW.PrintLast
