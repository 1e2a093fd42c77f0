/- A part of the proof of FnParking. -/
import Derived.Test.YtnbljcgdgblgoaaBFnParkingWKept
set_option linter.unusedVariables false
set_option linter.unusedSimpArgs false
namespace Go.Proofs.YtnbljcgdgblgoaaW.PrintWords
open Go.RowKit
def aIp (P:World→Prop) (W:World) (ok:Nat→Prop):Prop:=∀ W':World,(∀ k,ok k→k<W.heap.size→W'.heap[k]? = W.heap[k]?)→P W'
theorem aUk {W W1:World} {k:Nat} (h:W1.heap[k]? = W.heap[k]?) (hlt:k<W.heap.size):k<W1.heap.size:=by
 rw[Array.getElem?_eq_getElem hlt]at h
 exact(Array.getElem?_eq_some_iff.1 h).1
namespace aIp
variable {P Q:World→Prop} {W W1:World} {ok ok':Nat→Prop}
theorem now (h:aIp P W ok):P W:=h W (fun _ _ _=>rfl)
theorem mono (h:aIp P W ok) (hok:∀ k,ok k→ok' k):aIp P W ok':=fun W' hW=>h W' (fun k hk hlt=>hW k (hok k hk) hlt)
theorem bound (h:aIp P W ok):aIp P W (fun k=>ok k∧k<W.heap.size):=fun W' hW=>h W' (fun k hk hlt=>hW k ⟨hk,hlt⟩ hlt)
theorem step (h:aIp P W ok) (hm:∀ k,ok k→k<W.heap.size→W1.heap[k]? = W.heap[k]?):aIp P W1 ok:=fun W' hW=>h W' (fun k hk hlt=>(hW k hk (aUk (hm k hk hlt) hlt)).trans (hm k hk hlt))
theorem old (h:aIp P W ok) (hb:Below W.heap.size W W1):aIp P W1 (fun k=>ok k∧k<W.heap.size):=(h.bound).step (fun k _ hlt=>hb.block k hlt)
end aIp
namespace Kd
def F {α:Type} (d:Kd α) (W:World) (ok:Nat→Prop) (A:Option Addr) (n:Nat) (xs:List α):Prop:=aIp (fun W=>d.C W A n xs) W ok
def FK {α:Type} (d:Kd α) (W:World) (ok:Nat→Prop) (x:α) (c:List Value):Prop:=aIp (fun W=>d.K W x c) W ok
section
variable {α β:Type} {d:Kd α} {e base n n' cc g N:Nat} {ok ok' okp S:Nat→Prop} {w w0 w1 W W1:World} {A A':Option Addr} {u v v1:Value} {xs:List α} {xs':List β} {d':Kd β} {x:α} {c:List Value}
theorem aZa (h:F d W ok A n xs):d.C W A n xs:=aIp.now h
theorem aO4 (h:F d W ok A n xs) (hok:∀ k,ok k→ok' k):F d W ok' A n xs:=aIp.mono h hok
theorem aR9 (h:F d W ok A n xs):F d W (fun k=>ok k∧k<W.heap.size) A n xs:=aIp.bound h
theorem aR8 (h:F d W ok A n xs) (hm:∀ k,ok k→k<W.heap.size→W1.heap[k]? = W.heap[k]?):F d W1 ok A n xs:=aIp.step h hm
theorem aKc (h:F d W ok A n xs) (hb:Below W.heap.size W W1):F d W1 ok A n xs:=aR8 h (fun k _ hlt=>hb.block k hlt)
theorem aVf (h:F d W ok A n xs) (o:Obj):F d (W.alloc o) ok A n xs:=aKc h (aAz (Below.refl _ _) o)
theorem aY9 (h:F d W ok A n xs):F d W.drew ok A n xs:=aKc h (aEn (Below.refl _ _))
theorem aVe (h:F d W ok A n xs) (m:Nat):F d (W.drewN m) ok A n xs:=aKc h (aAj (Below.refl _ _) m)
theorem aZb (h:F d W ok A n xs) {p:Addr} (hok:∀ k,ok k→k≠p.block) (u:Value):F d (W.setCell p u) ok A n xs:=aR8 h (fun k hk _=>Below.heap_setCell W p u k (hok k hk))
theorem aY8 (h:F d W ok A n xs) (hk:aAu W W1 g none) (hok:∀ k,ok k→k≠g):F d W1 ok A n xs:=aR8 h (fun k ho hlt=>hk.2 k hlt (hok k ho) (by simp))
theorem aSt (h:F d W ok A n xs) (hbase:∀ k,v.ownBlock=some k→W.heap.size≤k) (hb:Below W.heap.size W W1):F d W1 (fun k=>ok k∧some k≠v.ownBlock) A n xs :=
 aO4 (aIp.old h hb) (fun k hk=>⟨hk.1,fun he=>by have:=hbase k he.symm;have:=hk.2;omega⟩)
theorem aSs (h:F d W ok A n xs) (a:Nat) (ha:W.heap.size≤a):F d W (fun k=>ok k∧k≠a) A n xs:=aO4 (aR9 h) (fun k hk=>⟨hk.1,by have:=hk.2;omega⟩)
theorem aVg (h:F d W (fun k=>ok k∧some k≠v.ownBlock) A n xs) (hg:W.grownBy W1 v.ownBlock) (hat:v1.ownBlock=v.ownBlock∨∃ b,v1.ownBlock=some b∧W.heap.size≤b):F d W1 (fun k=>ok k∧some k≠v1.ownBlock) A n xs:=by
 refine aO4 (aIp.step (aR9 h) (fun k hk hlt=>hg.block k hlt hk.1.2)) (fun k hk=>⟨hk.1.1,?_⟩)
 rcases hat with hat|⟨b,hb,hle⟩
 ·rw[hat];exact hk.1.2
 ·rw[hb]
  intro he
  injection he with he
  have:=hk.2
  omega
theorem aJn (h:FK d W ok x c):d.K W x c:=aIp.now h
theorem aHk (h:FK d W ok x c) (hok:∀ k,ok k→ok' k):FK d W ok' x c:=aIp.mono h hok
theorem aKd (h:FK d W ok x c):FK d W (fun k=>ok k∧k<W.heap.size) x c:=aIp.bound h
theorem aMu (h:FK d W ok x c) (hm:∀ k,ok k→k<W.heap.size→W1.heap[k]? = W.heap[k]?):FK d W1 ok x c:=aIp.step h hm
theorem aVh (h:d.M W base ok x c):FK d W ok x c:=fun _ hW=>d.K_of_M (M_step h hW)
end
end Kd
end Go.Proofs.YtnbljcgdgblgoaaW.PrintWords
