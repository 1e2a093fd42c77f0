/- A part of the proof of FnExactIsTree. -/
import Derived.Test.YtmneechdepaibaaBFnExactIsTreeWTab
namespace Go.Proofs.YtmneechdepaibaaW.PrintLast
/-- Number i is listed too. -/
def up (b : Nat → Bool) (i : Nat) : Nat → Bool := fun j => if j = i then true else b j
end Go.Proofs.YtmneechdepaibaaW.PrintLast
