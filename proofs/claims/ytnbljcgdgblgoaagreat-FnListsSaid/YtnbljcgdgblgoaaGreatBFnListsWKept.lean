/- A part of the proof of aF3. -/
import Derived.Test.YtnbljcgdgblgoaaGreatBFnListsWFoot
set_option linter.unusedVariables false
set_option linter.unusedSimpArgs false
namespace Go.Proofs.YtnbljcgdgblgoaaGreatW.PrintWords
open Go.RowKit
def Kept (w W:World) (S:Nat->Prop):Prop:=w.heap.size<=W.heap.size/\∀ i,i<w.heap.size->¬ S i->W.heap[i]? = w.heap[i]?
section
variable {w W W2:World} {S S2 S':Nat->Prop}
theorem Kept.refl (w:World) (S:Nat->Prop):Kept w w S:=⟨Nat.le_refl _,λ_ _ _=>rfl⟩
theorem Kept.of_below (h:Below w.heap.size w W) (S:Nat->Prop):Kept w W S:=⟨h.size,λi hi _=>h.block i hi⟩
theorem Kept.mono (h:Kept w W S) (hs:∀ k,S k->S' k):Kept w W S':=⟨h.1,λi hi hn=>h.2 i hi (λhk=>hn (hs i hk))⟩
theorem Kept.bF2 (h:Kept w W S) (k:Kept W W2 S2) (hs:∀ k,S2 k->S k∨w.heap.size<=k):Kept w W2 S :=
 ⟨Nat.le_trans h.1 k.1,λi hi hn=>(k.2 i (Nat.lt_of_lt_of_le hi h.1) (λh2=>(hs i h2).elim hn (λh3=>by omega))).trans (h.2 i hi hn)⟩
theorem Kept.aIe {row:Option Nat} (hg:W.grownBy W2 row) (h:Kept w W S) (hr:∀ k,row=some k->S k∨w.heap.size<=k):Kept w W2 S :=
 h.bF2 (S2:=λk=>row=some k) ⟨hg.size,λi hi hn=>hg.block i hi (λhe=>hn he.symm)⟩ hr
theorem Kept.below (h:Kept w W S) (hb:Below W.heap.size W W2):Kept w W2 S:=h.bF2 (Kept.of_below hb (λ_=>False)) (λ_ hk=>hk.elim)
theorem Kept.setCell (h:Kept w W S) {p:Addr} (hp:S p.block∨w.heap.size<=p.block) (u:Value):Kept w (W.setCell p u) S :=
 h.bF2 (S2:=λk=>k=p.block) ⟨by simp[World.setCell],λi _ hn=>Below.heap_setCell W p u i hn⟩ (λk hk=>by rw[hk];exact hp)
theorem aVg {g:Nat} {o:Obj} (hb:W.heap[g]? = some o) (hk:Kept W W2 S) (hne:¬ S g):W2.heap[g]? = some o:=(hk.2 g (aCt hb) hne).trans hb
end
namespace Kd
section
variable {α:Type} {d:Kd α} {e base n c:Nat} {ok oki S S2:Nat->Prop} {w w0 W W1 W2:World} {v:Value} {A:Option Addr} {xs:List α} {i:Int} {cs:List Value}
theorem bM7 (h:d.R e W base ok v xs) (hk:Kept W W2 S) (hne:∀ k,ok k->¬ S k):d.R e W2 base ok v xs:=aHh h (λk ho hlt=>hk.2 k hlt (hne k ho))
theorem aNu (hd:Heap d) (h:d.C w0 A n xs) (hb:Below w0.heap.size w0 W) (hS:∀ k,S k->w0.heap.size<=k):∀ W',Kept W W' S->d.C W' A n xs:=λW' hk =>
 hd.C (λk hlt=>(hk.2 k (Nat.lt_of_lt_of_le hlt hb.size) (λh2=>by have:=hS k h2;omega)).trans (hb.block k hlt)) h
theorem aLt (h:∀ W',Kept w W' S->d.C W' A n xs) (hk:Kept w W S):d.C W A n xs:=h W hk
end
end Kd
end Go.Proofs.YtnbljcgdgblgoaaGreatW.PrintWords
