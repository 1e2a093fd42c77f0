/- A part of the proof of FnExactDropChip. -/
import Derived.Test.YtjecgolakaiddaaBFnExactDropChipWTab
namespace Go.Proofs.YtjecgolakaiddaaW.PrintLast
/-- Number i is listed too. -/
def up (b : Nat → Bool) (i : Nat) : Nat → Bool := fun j => if j = i then true else b j
end Go.Proofs.YtjecgolakaiddaaW.PrintLast
