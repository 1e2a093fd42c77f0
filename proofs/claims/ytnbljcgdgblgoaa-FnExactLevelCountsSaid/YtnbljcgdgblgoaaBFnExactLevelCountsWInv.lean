/- A part of the proof of FnExactLevelCounts. -/
import Derived.Test.YtnbljcgdgblgoaaBFnExactLevelCountsWTab
namespace Go.Proofs.YtnbljcgdgblgoaaW.PrintLast
def up (b : Nat → Bool) (i : Nat) : Nat → Bool := fun j => if j = i then true else b j
end Go.Proofs.YtnbljcgdgblgoaaW.PrintLast
