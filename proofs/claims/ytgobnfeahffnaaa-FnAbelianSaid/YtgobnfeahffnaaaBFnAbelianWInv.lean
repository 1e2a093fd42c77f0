/- A part of the proof of FnAbelian. -/
import Derived.Test.YtgobnfeahffnaaaBFnAbelianWTab
namespace Go.Proofs.YtgobnfeahffnaaaW.PrintLast
/-- Number i is listed too. -/
def up (b : Nat → Bool) (i : Nat) : Nat → Bool := fun j => if j = i then true else b j
end Go.Proofs.YtgobnfeahffnaaaW.PrintLast
