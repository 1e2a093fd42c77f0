/- A part of the proof of FnExactOrientOfRank. -/
import Derived.Test.YtajfndianjfbpaaBFnExactOrientOfRankWTab
namespace Go.Proofs.YtajfndianjfbpaaW.PrintLast
/-- Number i is listed too. -/
def up (b : Nat → Bool) (i : Nat) : Nat → Bool := fun j => if j = i then true else b j
end Go.Proofs.YtajfndianjfbpaaW.PrintLast
