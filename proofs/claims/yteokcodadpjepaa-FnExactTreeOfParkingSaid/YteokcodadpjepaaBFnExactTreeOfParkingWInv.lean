/- A part of the proof of FnExactTreeOfParking. -/
import Derived.Test.YteokcodadpjepaaBFnExactTreeOfParkingWTab
namespace Go.Proofs.YteokcodadpjepaaW.PrintLast
/-- Number i is listed too. -/
def up (b : Nat → Bool) (i : Nat) : Nat → Bool := fun j => if j = i then true else b j
end Go.Proofs.YteokcodadpjepaaW.PrintLast
