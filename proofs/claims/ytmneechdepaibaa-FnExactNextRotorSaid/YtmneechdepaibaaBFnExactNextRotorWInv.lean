/- A part of the proof of FnExactNextRotor. -/
import Derived.Test.YtmneechdepaibaaBFnExactNextRotorWTab
namespace Go.Proofs.YtmneechdepaibaaW.PrintLast
/-- Number i is listed too. -/
def up (b : Nat → Bool) (i : Nat) : Nat → Bool := fun j => if j = i then true else b j
end Go.Proofs.YtmneechdepaibaaW.PrintLast
