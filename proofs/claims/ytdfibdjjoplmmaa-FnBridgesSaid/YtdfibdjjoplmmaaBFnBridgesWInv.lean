/- A part of the proof of FnBridges. -/
import Derived.Test.YtdfibdjjoplmmaaBFnBridgesWTab
namespace Go.Proofs.YtdfibdjjoplmmaaW.PrintLast
/-- Number i is listed too. -/
def up (b : Nat → Bool) (i : Nat) : Nat → Bool := fun j => if j = i then true else b j
end Go.Proofs.YtdfibdjjoplmmaaW.PrintLast
