/- A part of the proof of aF3. -/
import Derived.Test.YtnbljcgdgblgoaaGreatBFnListsWKept
set_option linter.unusedVariables false
set_option linter.unusedSimpArgs false
namespace Go.Proofs.YtnbljcgdgblgoaaGreatW.PrintWords
open Go.RowKit
def Foot (P:World->Prop) (W:World) (ok:Nat->Prop):Prop:=∀ W':World,(∀ k,ok k->k<W.heap.size->W'.heap[k]? = W.heap[k]?)->P W'
theorem bG7 {W W1:World} {k:Nat} (h:W1.heap[k]? = W.heap[k]?) (hlt:k<W.heap.size):k<W1.heap.size:=by
 rw[Array.getElem?_eq_getElem hlt]at h
 exact(Array.getElem?_eq_some_iff.1 h).1
namespace Foot
variable {P Q:World->Prop} {W W1:World} {ok ok':Nat->Prop}
theorem now (h:Foot P W ok):P W:=h W (λ_ _ _=>rfl)
theorem mono (h:Foot P W ok) (hok:∀ k,ok k->ok' k):Foot P W ok':=λW' hW=>h W' (λk hk hlt=>hW k (hok k hk) hlt)
theorem bound (h:Foot P W ok):Foot P W (λk=>ok k/\k<W.heap.size):=λW' hW=>h W' (λk hk hlt=>hW k ⟨hk,hlt⟩ hlt)
theorem step (h:Foot P W ok) (hm:∀ k,ok k->k<W.heap.size->W1.heap[k]? = W.heap[k]?):Foot P W1 ok:=λW' hW=>h W' (λk hk hlt=>(hW k hk (bG7 (hm k hk hlt) hlt)).trans (hm k hk hlt))
theorem old (h:Foot P W ok) (hb:Below W.heap.size W W1):Foot P W1 (λk=>ok k/\k<W.heap.size):=(h.bound).step (λk _ hlt=>hb.block k hlt)
end Foot
namespace Kd
def F {α:Type} (d:Kd α) (W:World) (ok:Nat->Prop) (A:Option Addr) (n:Nat) (xs:List α):Prop:=Foot (λW=>d.C W A n xs) W ok
def FK {α:Type} (d:Kd α) (W:World) (ok:Nat->Prop) (x:α) (c:List Value):Prop:=Foot (λW=>d.K W x c) W ok
section
variable {α β:Type} {d:Kd α} {e base n n' cc g N:Nat} {ok ok' okp S:Nat->Prop} {w w0 w1 W W1:World} {A A':Option Addr} {u v v1:Value} {xs:List α} {xs':List β} {d':Kd β} {x:α} {c:List Value}
theorem bQ3 (h:F d W ok A n xs):d.C W A n xs:=Foot.now h
theorem aVl (h:F d W ok A n xs) (hok:∀ k,ok k->ok' k):F d W ok' A n xs:=Foot.mono h hok
theorem bAl (h:F d W ok A n xs):F d W (λk=>ok k/\k<W.heap.size) A n xs:=Foot.bound h
theorem bAk (h:F d W ok A n xs) (hm:∀ k,ok k->k<W.heap.size->W1.heap[k]? = W.heap[k]?):F d W1 ok A n xs:=Foot.step h hm
theorem aPv (h:F d W ok A n xs) (hb:Below W.heap.size W W1):F d W1 ok A n xs:=bAk h (λk _ hlt=>hb.block k hlt)
theorem bHl (h:F d W ok A n xs) (o:Obj):F d (W.alloc o) ok A n xs:=aPv h (aB7 (Below.refl _ _) o)
theorem bMm (h:F d W ok A n xs):F d W.drew ok A n xs:=aPv h (aGi (Below.refl _ _))
theorem bHk (h:F d W ok A n xs) (m:Nat):F d (W.drewN m) ok A n xs:=aPv h (aAs (Below.refl _ _) m)
theorem bQ4 (h:F d W ok A n xs) {p:Addr} (hok:∀ k,ok k->k≠p.block) (u:Value):F d (W.setCell p u) ok A n xs:=bAk h (λk hk _=>Below.heap_setCell W p u k (hok k hk))
theorem bMl (h:F d W ok A n xs) (hk:aAw W W1 g none) (hok:∀ k,ok k->k≠g):F d W1 ok A n xs:=bAk h (λk ho hlt=>hk.2 k hlt (hok k ho) (by simp))
theorem bDh (h:F d W ok A n xs) (hbase:∀ k,v.ownBlock=some k->W.heap.size<=k) (hb:Below W.heap.size W W1):F d W1 (λk=>ok k/\some k≠v.ownBlock) A n xs :=
 aVl (Foot.old h hb) (λk hk=>⟨hk.1,λhe=>by have:=hbase k he.symm;have:=hk.2;omega⟩)
theorem bDg (h:F d W ok A n xs) (a:Nat) (ha:W.heap.size<=a):F d W (λk=>ok k/\k≠a) A n xs:=aVl (bAl h) (λk hk=>⟨hk.1,by have:=hk.2;omega⟩)
theorem bHm (h:F d W (λk=>ok k/\some k≠v.ownBlock) A n xs) (hg:W.grownBy W1 v.ownBlock) (hat:v1.ownBlock=v.ownBlock∨∃ b,v1.ownBlock=some b/\W.heap.size<=b):F d W1 (λk=>ok k/\some k≠v1.ownBlock) A n xs:=by
 refine aVl (Foot.step (bAl h) (λk hk hlt=>hg.block k hlt hk.1.2)) (λk hk=>⟨hk.1.1,?_⟩)
 rcases hat with hat|⟨b,hb,hle⟩
 ·rw[hat];exact hk.1.2
 ·rw[hb]
  intro he
  injection he with he
  have:=hk.2
  omega
theorem aOr (h:FK d W ok x c):d.K W x c:=Foot.now h
theorem aLs (h:FK d W ok x c) (hok:∀ k,ok k->ok' k):FK d W ok' x c:=Foot.mono h hok
theorem aPw (h:FK d W ok x c):FK d W (λk=>ok k/\k<W.heap.size) x c:=Foot.bound h
theorem aTt (h:FK d W ok x c) (hm:∀ k,ok k->k<W.heap.size->W1.heap[k]? = W.heap[k]?):FK d W1 ok x c:=Foot.step h hm
theorem bHn (h:d.M W base ok x c):FK d W ok x c:=λ_ hW=>d.aF4 (bAg h hW)
end
end Kd
end Go.Proofs.YtnbljcgdgblgoaaGreatW.PrintWords
