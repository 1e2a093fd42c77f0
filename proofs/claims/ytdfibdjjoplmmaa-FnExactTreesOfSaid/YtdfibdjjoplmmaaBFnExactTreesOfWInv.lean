/- A part of the proof of FnExactTreesOf. -/
import Derived.Test.YtdfibdjjoplmmaaBFnExactTreesOfWTab
namespace Go.Proofs.YtdfibdjjoplmmaaW.PrintLast
/-- Number i is listed too. -/
def up (b : Nat → Bool) (i : Nat) : Nat → Bool := fun j => if j = i then true else b j
end Go.Proofs.YtdfibdjjoplmmaaW.PrintLast
