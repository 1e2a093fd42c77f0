/- A part of the proof of aE2. -/
import Derived.Test.YtfdaopkbibbhbaaBFnGroupsWTab
set_option linter.unusedVariables false
set_option linter.unusedSimpArgs false
namespace Go.Proofs.YtfdaopkbibbhbaaW.PrintLast
def up (b:Nat->Bool) (i:Nat):Nat->Bool:=λj=>if j=i then true else b j
end Go.Proofs.YtfdaopkbibbhbaaW.PrintLast
