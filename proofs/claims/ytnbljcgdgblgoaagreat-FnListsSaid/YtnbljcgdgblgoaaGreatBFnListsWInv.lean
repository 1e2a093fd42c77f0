/- A part of the proof of aF3. -/
import Derived.Test.YtnbljcgdgblgoaaGreatBFnListsWTab
set_option linter.unusedVariables false
set_option linter.unusedSimpArgs false
namespace Go.Proofs.YtnbljcgdgblgoaaGreatW.PrintLast
def up (b:Nat->Bool) (i:Nat):Nat->Bool:=λj=>if j=i then true else b j
end Go.Proofs.YtnbljcgdgblgoaaGreatW.PrintLast
