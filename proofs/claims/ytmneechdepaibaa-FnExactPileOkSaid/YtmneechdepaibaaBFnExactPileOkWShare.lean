/- A part of the proof of FnExactPileOk. -/
import Derived.Test.YtmneechdepaibaaBFnExactPileOkWApart
import Derived.Test.YtmneechdepaibaaBFnExactPileOkWWords
namespace Go.Proofs.YtmneechdepaibaaW.PrintWords
open Go.RowKit
/-- P holds in W and in every world that has W's blocks of ok. -/
def Foot (P : World → Prop) (W : World) (ok : Nat → Prop) : Prop := ∀ W' : World, (∀ k, ok k → k < W.heap.size → W'.heap[k]? = W.heap[k]?) → P W'
namespace Kd
/-- An element's cells: what they lead to lies in ok. -/
def FK {α : Type} (d : Kd α) (W : World) (ok : Nat → Prop) (x : α) (c : List Value) : Prop := Foot (fun W => d.K W x c) W ok
end Kd
end Go.Proofs.YtmneechdepaibaaW.PrintWords
