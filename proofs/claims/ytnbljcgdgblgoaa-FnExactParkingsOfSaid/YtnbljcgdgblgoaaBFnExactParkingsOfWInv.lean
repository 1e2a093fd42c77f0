/- A part of the proof of FnExactParkingsOf. -/
import Derived.Test.YtnbljcgdgblgoaaBFnExactParkingsOfWTab
namespace Go.Proofs.YtnbljcgdgblgoaaW.PrintLast
/-- Number i is listed too. -/
def up (b : Nat → Bool) (i : Nat) : Nat → Bool := fun j => if j = i then true else b j
end Go.Proofs.YtnbljcgdgblgoaaW.PrintLast
