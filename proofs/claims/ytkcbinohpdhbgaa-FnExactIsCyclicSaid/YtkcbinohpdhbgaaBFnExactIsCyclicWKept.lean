/- A part of the proof of FnExactIsCyclic. -/
import Derived.Test.YtkcbinohpdhbgaaBFnExactIsCyclicWFoot
namespace Go.Proofs.YtkcbinohpdhbgaaW.PrintWords
open Go.RowKit
def Kept (w W : World) (S : Nat → Prop) : Prop := w.heap.size ≤ W.heap.size ∧ ∀ i, i < w.heap.size → ¬ S i → W.heap[i]? = w.heap[i]?
section
variable {w W W2 : World} {S S2 S' : Nat → Prop}
theorem Kept.mono (h : Kept w W S) (hs : ∀ k, S k → S' k) : Kept w W S' := ⟨h.1, fun i hi hn => h.2 i hi (fun hk => hn (hs i hk))⟩
end
end Go.Proofs.YtkcbinohpdhbgaaW.PrintWords
