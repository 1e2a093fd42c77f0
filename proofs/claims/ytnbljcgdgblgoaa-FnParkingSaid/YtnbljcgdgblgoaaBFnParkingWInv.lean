/- A part of the proof of FnParking. -/
import Derived.Test.YtnbljcgdgblgoaaBFnParkingWTab
set_option linter.unusedVariables false
set_option linter.unusedSimpArgs false
namespace Go.Proofs.YtnbljcgdgblgoaaW.PrintLast
def up (b:Nat→Bool) (i:Nat):Nat→Bool:=fun j=>if j=i then true else b j
end Go.Proofs.YtnbljcgdgblgoaaW.PrintLast
