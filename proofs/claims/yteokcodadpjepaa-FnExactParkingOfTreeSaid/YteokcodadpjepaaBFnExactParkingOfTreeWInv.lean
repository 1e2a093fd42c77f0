/- A part of the proof of FnExactParkingOfTree. -/
import Derived.Test.YteokcodadpjepaaBFnExactParkingOfTreeWTab
namespace Go.Proofs.YteokcodadpjepaaW.PrintLast
/-- Number i is listed too. -/
def up (b : Nat → Bool) (i : Nat) : Nat → Bool := fun j => if j = i then true else b j
end Go.Proofs.YteokcodadpjepaaW.PrintLast
