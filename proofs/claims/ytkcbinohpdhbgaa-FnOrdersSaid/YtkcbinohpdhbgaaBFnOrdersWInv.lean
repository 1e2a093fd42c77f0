/- A part of the proof of FnOrders. -/
import Derived.Test.YtkcbinohpdhbgaaBFnOrdersWTab
namespace Go.Proofs.YtkcbinohpdhbgaaW.PrintLast
def up (b : Nat → Bool) (i : Nat) : Nat → Bool := fun j => if j = i then true else b j
end Go.Proofs.YtkcbinohpdhbgaaW.PrintLast
