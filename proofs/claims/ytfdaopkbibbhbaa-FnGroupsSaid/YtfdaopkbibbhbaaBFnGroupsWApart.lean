/- A part of the proof of aE2. -/
import Derived.Test.YtfdaopkbibbhbaaBFnGroupsWWords
import Derived.Test.YtfdaopkbibbhbaaBFnGroupsWLast
set_option linter.unusedVariables false
set_option linter.unusedSimpArgs false
namespace Go.Proofs.YtfdaopkbibbhbaaW.PrintWords
open Go.RowKit
namespace Kd
def tag {α:Type} (f:Nat->Nat) (d:Kd α):Kd (α×Nat) where
 sz:=d.sz
 E:=d.E
 K:=λw x cs=>d.K w x.1 cs
 M:=λw base ok x cs=>d.M w base (λk=>ok k/\f k=x.2) x.1 cs
 aIk:=λh=>d.aIk h
 aI4:=λh=>d.aI4 h
 aFl:=λhb h=>d.aFl hb h
 aEz:=λh=>d.aEz h
 aDu:=λhok h=>d.aDu (λk hk=>⟨hok k hk.1,hk.2⟩) h
 aEk:=λh=>d.aDu (λ_ hk=>⟨⟨hk.1.1,hk.2⟩,hk.1.2⟩) (d.aEk h)
 aG2:=λhm h=>d.aG2 (λk hk=>hm k hk.1) h
 aFk:=λhb h=>d.aFk hb h
def raw (sz:Nat):Kd (List Value) where
 sz:=sz
 E:=[]
 K:=λ_ x cs=>cs=x/\cs.length=sz/\∀ u∈cs,u.oneCell'=true
 M:=λ_ _ _ x cs=>cs=x/\cs.length=sz/\∀ u∈cs,u.oneCell'=true
 aIk:=λh=>h.2.1
 aI4:=λh=>h.2.2
 aFl:=λ_ h=>h
 aEz:=λh=>h
 aDu:=λ_ h=>h
 aEk:=λh=>h
 aG2:=λ_ h=>h
 aFk:=λ_ h=>h
def S {α:Type} (d:Kd α) (e:Nat) (w:World) (base:Nat) (ok:Nat->Prop) (v:Value) (xs:List α):Prop:=∃ f,(tag f d).R e w base ok v xs.zipIdx
section
variable {α β:Type} {d:Kd α} {d':Kd β} {e e':Nat} {w w1 W:World} {base b:Nat} {ok ok' okv oku:Nat->Prop} {u v:Value} {xs:List α} {ys:List β}
theorem aQg {xs:List α} {j:Nat} {p:α} (h:xs[j]? = some p):xs.zipIdx[j]? = some (p,j):=by rw[List.getElem?_zipIdx,h,Nat.zero_add];rfl
theorem S_R (h:S d e w base ok v xs):d.R e w base ok v xs:=by
 obtain⟨f,h0,inner,ho,hr⟩:=h
 rw[List.length_zipIdx]at ho
 exact⟨h0,inner,ho,by have:=hr.1;rw[List.length_zipIdx]at this;exact this,λj p hj=>d.aDu (λ_ hk=>hk.1) (hr.2 j (p,j) (aQg hj))⟩
theorem aZ1 {ad:Addr} {n cap:Nat} (h:d.R e w base ok (.slice (some ad) n cap) xs):∃ g,ad=⟨g,0,none⟩:=by
 obtain⟨_,inner,ho,hr⟩:=h
 rcases ho.2 with ⟨hv,_⟩|⟨g,cap',cur,hv,_⟩
 ·cases hv
 ·injection hv with ha _ _
  injection ha with ha
  exact⟨g,ha⟩
theorem bF8 {ad:Addr} {n cap:Nat} (h:d.R e W base ok (.slice (some ad) n cap) xs) (z:α) (i:Int) (h0:0<=i) (h1:i<n) :
  ∃ c,c.length=d.sz/\d.M W base (λk=>ok k/\some k≠(Value.slice (some ad) n cap).ownBlock) (xs.getD i.toNat z) c/\∀ j u,c[j]? = some u->W.cell? (ad.add (i.toNat*d.sz+j))=some u:=by
 obtain⟨g,rfl⟩:=aZ1 h
 obtain⟨c,hcl,hM,hcc,_⟩:=bF9 h z i h0 h1
 refine⟨c,hcl,d.aDu (λk hk=>⟨hk.1,λhe=>hk.2 (by simpa[Value.ownBlock]using he)⟩) hM,λj u hu=>?_⟩
 rw[aRl,Nat.zero_add]
 exact hcc j u hu
theorem bHk (h:d.R e w base ok v xs):v.cells.toList=[v]/\v.oneCell'=true:=by
 obtain⟨A,c,rfl⟩:=aBe h
 exact⟨rfl,rfl⟩
theorem aNo (hE:d.E=[]) (h:d.R e w base ok v xs):d.R e w base (λk=>some k=v.ownBlock) v xs:=by
 obtain⟨h0,inner,ho,hr⟩:=h
 refine⟨λk hk=>hk.symm,inner,ho,hr.aPe (λp c hp=>d.aDu (λk hk=>?_) (d.aEk hp))⟩
 obtain⟨_,_,_,q,hq,_⟩:=hk
 rw[hE]at hq
 cases hq
theorem aNm (d:Kd α) (e:Nat) (w:World) (base:Nat) (ok:Nat->Prop):S d e w base ok (.slice none 0 0) []:=⟨λ_=>0,aSr _ _ _ _ _⟩
theorem aFf (h:S d e w base ok v xs) (hok:∀ k,ok k->ok' k):S d e w base ok' v xs:=by
 obtain⟨f,h⟩:=h
 exact⟨f,aBh h hok⟩
theorem aHq (h:S d e w base ok v xs):S d e w base (λk=>ok k/\base<=k/\k<w.heap.size/\∃ q,q∈e::d.E/\∃ cells,w.heap[k]? = some (.cells cells q (0,0))) v xs:=by
 obtain⟨f,h⟩:=h
 exact⟨f,aFa h⟩
theorem bF1 (h:S d e w base ok v xs) (hm:∀ k,ok k->w1.heap[k]? = w.heap[k]?):S d e w1 base ok v xs:=by
 obtain⟨f,h⟩:=h
 exact⟨f,aMs h hm⟩
theorem aNn {base':Nat} (h:S d e w base ok v xs) (hb:base'<=base):S d e w base' ok v xs:=by
 obtain⟨f,h⟩:=h
 exact⟨f,aCm h hb⟩
theorem aVf (h:S d e w base ok v xs) (hm:∀ k,ok k->k<w.heap.size->w1.heap[k]? = w.heap[k]?):S d e w1 base ok v xs :=
 aFf (bF1 (aHq h) (λk hk=>hm k hk.1 hk.2.2.1)) (λ_ hk=>hk.1)
theorem aFj (h:S d e w base ok v xs) (hb:Below w.heap.size w w1):S d e w1 base ok v xs:=aVf h (λk _ hk=>hb.block k hk)
theorem aFv (h:S d e w base ok v xs) (o:Obj):S d e (w.alloc o) base ok v xs:=aFj h (aB6 (Below.refl _ _) o)
theorem aH7 (h:S d e w base ok v xs):S d e w.drew base ok v xs:=aFj h (aI0 (Below.refl _ _))
theorem aFu (h:S d e w base ok v xs) (m:Nat):S d e (w.drewN m) base ok v xs:=aFj h (aAv (Below.refl _ _) m)
theorem aVh (h:S d e w base ok v xs) {row:Option Nat} (hg:w.grownBy w1 row) (hok:∀ k,ok k->some k≠row):S d e w1 base ok v xs:=aVf h (λk ho hk=>hg.block k hk (hok k ho))
theorem aVe (h:S d e w base ok v xs):∀ k,v.ownBlock=some k->∃ cells,w.heap[k]? = some (.cells cells e (0,0)):=bBr (S_R h)
theorem bHi (h:S d e w base ok v xs):∀ k,v.ownBlock=some k->k<w.heap.size:=aEy (S_R h)
theorem aY1 (h:S d e W base ok u xs) (hbase:∀ k,v.ownBlock=some k->W.heap.size<=k) (hb:Below W.heap.size W w1):S d e w1 base (λk=>ok k/\some k≠v.ownBlock) u xs:=by
 obtain⟨f,h⟩:=h
 exact⟨f,aBz h hbase hb⟩
theorem aLr (h:S d e w1 W.heap.size ok v xs) (hlt:∀ k,u.ownBlock=some k->k<W.heap.size):S d e w1 W.heap.size (λk=>ok k/\some k≠u.ownBlock) v xs:=by
 obtain⟨f,h⟩:=h
 exact⟨f,aD2 h hlt⟩
theorem aVj {v1:Value} (h:S d e W base (λk=>ok k/\some k≠v.ownBlock) u xs) (hg:W.grownBy w1 v.ownBlock) (hat:v1.ownBlock=v.ownBlock∨∃ b,v1.ownBlock=some b/\W.heap.size<=b):S d e w1 base (λk=>ok k/\some k≠v1.ownBlock) u xs:=by
 obtain⟨f,h⟩:=h
 exact⟨f,aJs h hg hat⟩
theorem bHl {f f':Nat->Nat} {zs:List (α×Nat)} (h:(tag f d).R e w base ok v zs) (hf:∀ k,ok k->k<w.heap.size->f' k=f k):(tag f' d).R e w base ok v zs:=by
 obtain⟨h0,inner,ho,hr⟩:=aFa h
 exact⟨λk hk=>(h0 k hk).1,inner,ho,hr.1,λj p hj=>d.aDu (λk hk=>⟨⟨hk.1.1.1,hk.1.2⟩,(hf k hk.1.1.1 hk.1.1.2.2.1).trans hk.2⟩) (hr.2 j p hj)⟩
end
section
variable {α β:Type} {d:Kd α} {d':Kd β} {e e' g:Nat} {w w1 W:World} {base b:Nat} {ok ok' okv oku:Nat->Prop} {u v:Value} {xs:List α} {ys:List β}
theorem bLh (h:S d e w base ok v xs) {t:Nat} {cells:Array Value} (hb:w.heap[g]? = some (.cells cells t (0,0))) (ht:e≠t):some g≠v.ownBlock:=aEd (S_R h) hb ht
theorem aVi (h:S d e w base ok v xs) (hp:0<xs.length):∃ g cap,v = .slice (some ⟨g,0,none⟩) xs.length cap/\base<=g/\g<w.heap.size/\∃ cells,w.heap[g]? = some (.cells cells e (0,0)):=aHs (S_R h) hp
theorem aJq (h:S d e w base ok v xs):∃ A c,v = .slice A xs.length c:=aBe (S_R h)
theorem bBq (h:S d e w base ok v xs):∃ A c,v = .slice A xs.length c/\xs.length<=c/\d.C w A xs.length xs:=aJr (S_R h)
theorem aKn {A:Option Addr} {n c:Nat} (h:S d e w base ok (.slice A n c) xs):n=xs.length/\n<=c/\d.C w A xs.length xs:=aAc (S_R h)
theorem bF4 {ad:Addr} {n cap:Nat} (h:S d e W base ok (.slice (some ad) n cap) xs) (z:α) (i:Int) (h0:0<=i) (h1:i<n) :
  ∃ c,c.length=d.sz/\d.M W base (λk=>ok k/\some k≠(Value.slice (some ad) n cap).ownBlock) (xs.getD i.toNat z) c/\∀ j u,c[j]? = some u->W.cell? (ad.add (i.toNat*d.sz+j))=some u:=bF8 (S_R h) z i h0 h1
theorem aW9 (xs:List α) (p:α):(xs++[p]).zipIdx=xs.zipIdx++[(p,xs.length)]:=by rw[List.zipIdx_append];simp
end
section
open Classical in
theorem bHh {α:Type} {d:Kd α} {e base:Nat} {okv:Nat->Prop} {w:World} {v:Value} {xs:List α} (h:S d e w base okv v xs) (m:Nat) (okp:Nat->Prop) (hap:∀ k,okp k->¬ okv k):∃ f,(∀ k,okp k->f k=m)/\(tag f d).R e w base okv v xs.zipIdx:=by
 obtain⟨f,h⟩:=h
 exact⟨λk=>if okp k then m else f k,λk hk=>if_pos hk,bHl h (λk hk _=>if_neg (λh2=>hap k h2 hk))⟩
variable {P:Program} {ops:Array Oper} {rest:List Oper} {o:Oper} {a:Act} {Q:Exit->Act->World->Prop} {Kc:Act->World->Prop} {α:Type}
theorem aKo (d:Kd α) {w0 W:World} (base:Nat) (hgd:o.guard=none) (s x:Operand) (t e:TypeId) (z:Value) (bytes:Nat)
  (ho:o.op = .call { callee:=.builtin .append,args:=#[s,x],argTypes:=#[t,t]})
  (ht:P.underlying t=some (.slice e)) (hinfo:(P.info? e).map (λi=>(i.zero,i.size,i.bytes))=some (some z,d.sz,bytes)) (hz:z.cells.size=d.sz) (hs0:0<d.sz) (hb0:0<bytes)
  (v:Value) (xs:List α) (p:α) (cs:List Value) (ok okp:Nat->Prop) (hs:a.eval s=v) (hx:a.eval x = .slice (some ⟨W.heap.size,0,none⟩) 1 1) (hp:d.M W base okp p cs) (bAq:∀ k,okp k->ok k/\some k≠v.ownBlock) (hfresh:∀ k,W.heap.size<=k->ok k)
  (HO:S d e W base (λk=>ok k/\¬ okp k) v xs) (HB:Below base w0 W) (hbase:base<=W.heap.size) (hl:(xs.length+1)*bytes<=140737488355328)
  (h:∀ v1 w1,S d e w1 base ok v1 (xs++[p])->Below base w0 w1->W.grownBy w1 v.ownBlock->(v1.ownBlock=v.ownBlock∨∃ b,v1.ownBlock=some b/\W.heap.size<=b)->wpList P ops Q rest (a.put o.dst v1) w1) :
  wpList P ops Q (o::rest) a (W.alloc (.cells cs.toArray e)):=by
 obtain⟨f,hf,hR⟩:=bHh HO xs.length okp (λ_ hk h2=>h2.2 hk)
 refine aD3 (tag f d) base hgd s x t e z bytes ho ht hinfo hz hs0 hb0 v xs.zipIdx (p,xs.length) cs ok okp hs hx (d.aDu (λk hk=>⟨hk,hf k hk⟩) hp) bAq hfresh (aBh hR (λ_ hk=>hk.1)) HB hbase (by rw[List.length_zipIdx];exact hl) ?_
 intro v1 w1 hr
 rw[<-aW9]at hr
 exact h v1 w1 ⟨f,hr⟩
theorem aWn {d:Kd α} {w:World} {base:Nat} {ok:Nat->Prop} {xs:List α} {inner:List Value} (okj:Nat->Nat->Prop) (hap:∀ i j k,okj i k->okj j k->i=j) (hok:∀ j k,okj j k->ok k)
  (hl:inner.length=xs.length*d.sz) (hrep:∀ j x,xs[j]? = some x->d.M w base (okj j) x ((inner.drop (j*d.sz)).take d.sz)):∃ f,aEf ((tag f d).M w base ok) d.sz xs.zipIdx inner:=by
 refine⟨λk=>open Classical in if h:∃ j,okj j k then h.choose else 0,by rw[List.length_zipIdx];exact hl,λj p hj=>?_⟩
 rw[List.getElem?_zipIdx,Nat.zero_add]at hj
 obtain⟨x,hx,rfl⟩:=Option.map_eq_some_iff.1 hj
 refine d.aDu (λk hk=>⟨hok j k hk,?_⟩) (hrep j x hx)
 have h:∃ j,okj j k:=⟨j,hk⟩
 exact(dif_pos h).trans (hap _ _ k h.choose_spec hk)
theorem bF2 (d:Kd α) {w0 W:World} (base e:Nat) (hgd:o.guard=none) {N:Tmp} (_hd:o.dst=some N) {xs:List α} {inner:List Value} {ok:Nat->Prop} (okj:Nat->Nat->Prop)
  (hrun:(execOp a.eval o).run P W = .ok (.value (.slice (some ⟨W.heap.size,0,none⟩) xs.length xs.length)) (W.alloc (.cells inner.toArray e)))
  (hl:inner.length=xs.length*d.sz) (hrep:∀ j x,xs[j]? = some x->d.M W base (okj j) x ((inner.drop (j*d.sz)).take d.sz)) (hap:∀ i j k,okj i k->okj j k->i=j) (hok:∀ j k,okj j k->ok k) (hfresh:ok W.heap.size) (HB:Below base w0 W) (hbase:base<=W.heap.size) (hm:xs.length<=9223372036854775807)
  (h:∀ v1 w1,S d e w1 base ok v1 xs->Below base w0 w1->W.grownBy w1 none->(∃ b,v1.ownBlock=some b/\W.heap.size<=b)->wpList P ops Q rest (a.put o.dst v1) w1):wpList P ops Q (o::rest) a W:=by
 obtain⟨f,hr⟩:=aWn (d:=d) (w:=W) (base:=base) (ok:=ok) okj hap hok hl hrep
 refine aP4 (tag f d) base e hgd _hd (xs:=xs.zipIdx) (inner:=inner) (ok:=ok) (okp:=ok) (by rw[List.length_zipIdx];exact hrun) hr (λ_ hk=>hk) hfresh HB hbase (by rw[List.length_zipIdx];exact hm) ?_
 intro v1 w1 hr
 exact h v1 w1 ⟨f,hr⟩
end
def gap {α:Type} (f:Nat->Nat) (d:Kd α) (i:Nat) (c:List Value):Kd (α×Nat) where
 sz:=d.sz
 E:=d.E
 K:=λw x cs=>(x.2=i->cs=c/\cs.length=d.sz/\∀ u∈cs,u.oneCell'=true)/\(x.2≠i->d.K w x.1 cs)
 M:=λw base ok x cs=>(x.2=i->cs=c/\cs.length=d.sz/\∀ u∈cs,u.oneCell'=true)/\(x.2≠i->d.M w base (λk=>ok k/\f k=x.2) x.1 cs)
 aIk:=fun {w x cs} h=>by
  by_cases hx:x.2=i
  ·exact(h.1 hx).2.1
  ·exact d.aIk (h.2 hx)
 aI4:=fun {w x cs} h=>by
  by_cases hx:x.2=i
  ·exact(h.1 hx).2.2
  ·exact d.aI4 (h.2 hx)
 aFl:=λhb h=>⟨h.1,λhx=>d.aFl hb (h.2 hx)⟩
 aEz:=λh=>⟨h.1,λhx=>d.aEz (h.2 hx)⟩
 aDu:=λhok h=>⟨h.1,λhx=>d.aDu (λk hk=>⟨hok k hk.1,hk.2⟩) (h.2 hx)⟩
 aEk:=λh=>⟨h.1,λhx=>d.aDu (λ_ hk=>⟨⟨hk.1.1,hk.2⟩,hk.1.2⟩) (d.aEk (h.2 hx))⟩
 aG2:=λhm h=>⟨h.1,λhx=>d.aG2 (λk hk=>hm k hk.1) (h.2 hx)⟩
 aFk:=λhb h=>⟨h.1,λhx=>d.aFk hb (h.2 hx)⟩
def H {α:Type} (d:Kd α) (e:Nat) (w:World) (base:Nat) (ok:Nat->Prop) (v:Value) (xs:List α) (i:Int) (oki:Nat->Prop) (c:List Value):Prop :=
 (∀ k,oki k->ok k)/\∃ f,(gap f d i.toNat c).R e w base (λk=>ok k/\¬ oki k) v xs.zipIdx
section
variable {α β:Type} {d:Kd α} {e e' g n cap:Nat} {w w1 W:World} {base:Nat} {ok ok' oki okp:Nat->Prop} {u v:Value} {xs:List α} {i:Int} {c:List Value}
theorem bF3 (h:S d e W base ok (.slice (some ⟨g,0,none⟩) n cap) xs) (z:α) (i:Int) (h0:0<=i) (h1:i<n) :
  ∃ (oki:Nat->Prop) (c:List Value),c.length=d.sz/\d.M W base oki (xs.getD i.toNat z) c/\(∀ j u,c[j]? = some u->W.cell? ⟨g,i.toNat*d.sz+j,none⟩=some u)/\(∀ k,oki k->ok k/\k≠g)/\H d e W base ok (.slice (some ⟨g,0,none⟩) n cap) xs i oki c:=by
 obtain⟨f,hR⟩:=h
 have hn:=(aAc hR).1
 rw[List.length_zipIdx]at hn
 have hgo:some g=(Value.slice (some ⟨g,0,none⟩) n cap).ownBlock:=by simp[Value.ownBlock]
 obtain⟨hok0,inner,ho,hr⟩:=hR
 have hil:i.toNat<xs.length:=by omega
 have hlen:inner.length=xs.length*d.sz:=by have:=hr.1;rw[List.length_zipIdx]at this;exact this
 have hseg:i.toNat*d.sz+d.sz<=inner.length:=by rw[hlen,<-Nat.succ_mul];exact Nat.mul_le_mul_right _ hil
 have hM:=hr.2 i.toNat _ (aQg (List.getElem?_eq_getElem hil))
 have hkg:∀ k,some k≠(Value.slice (some ⟨g,0,none⟩) n cap).ownBlock->k≠g:=λk hk he=>hk (by rw[he];exact hgo)
 refine⟨λk=>(ok k/\k≠g)/\f k=i.toNat,(inner.drop (i.toNat*d.sz)).take d.sz,by rw[List.length_take,List.length_drop];omega,?_,λj u hu=>?_,λk hk=>hk.1,λk hk=>hk.1.1,f,λk hk=>⟨hok0 k hk,λh2=>h2.1.2 ?_⟩,inner,ho,hr.1,λm p hm=>?_⟩
 ·rw[List.getD_eq_getElem?_getD,List.getElem?_eq_getElem hil]
  exact d.aDu (λk hk=>⟨⟨hk.1.1,hkg k hk.1.2⟩,hk.2⟩) hM
 ·rw[List.getElem?_take]at hu
  split at hu
  ·rw[List.getElem?_drop]at hu
   have:=ho.cells (g:=g) hgo.symm _ u hu
   rwa[add_plain]at this
  ·cases hu
 ·rw[<-hgo]at hk;injection hk with hk;exact hk.symm
 ·have hold:=hr.2 m p hm
  have hp2:p.2=m:=by
   rw[List.getElem?_zipIdx,Nat.zero_add]at hm
   obtain⟨q,_,rfl⟩:=Option.map_eq_some_iff.1 hm
   rfl
  refine⟨λhx=>?_,λhx=>d.aDu (λk hk=>⟨⟨⟨hk.1.1,λh2=>hx ?_⟩,hk.1.2⟩,hk.2⟩) hold⟩
  ·have hmi:m=i.toNat:=by omega
   subst hmi
   exact⟨rfl,d.aIk (d.aEz hM),d.aI4 (d.aEz hM)⟩
  ·rw[<-hk.2];exact h2.2
open Classical in
theorem bFe (h:H d e w base ok v xs i oki c) {x':α} (hM:d.M w base okp x' c) (hok:∀ k,okp k->oki k):S d e w base ok v (xs.set i.toNat x'):=by
 obtain⟨ho,f,h0,inner,hown,hr⟩:=h
 refine⟨λk=>if oki k then i.toNat else f k,λk hk=>(h0 k hk).1,inner,by rw[List.length_zipIdx,List.length_set];rw[List.length_zipIdx]at hown;exact hown,by have:=hr.1;rw[List.length_zipIdx]at this;rw[List.length_zipIdx,List.length_set];exact this,λm p hm=>?_⟩
 rw[List.getElem?_zipIdx,Nat.zero_add]at hm
 obtain⟨q,hq,rfl⟩:=Option.map_eq_some_iff.1 hm
 have hml:m<xs.length:=by
  have:=(List.getElem?_eq_some_iff.1 hq).1
  rwa[List.length_set]at this
 by_cases hmi:m=i.toNat
 ·subst hmi
  rw[List.getElem?_set_self hml]at hq
  injection hq with hq
  subst hq
  have hc:=((hr.2 i.toNat _ (aQg (List.getElem?_eq_getElem hml))).1 rfl).1
  show d.M w base _ x' ((inner.drop (i.toNat*d.sz)).take d.sz)
  rw[show (inner.drop (i.toNat*d.sz)).take d.sz=c from hc]
  exact d.aDu (λk hk=>⟨⟨ho k (hok k hk),λhe=>(h0 k he.symm).2 (hok k hk)⟩,if_pos (hok k hk)⟩) hM
 ·rw[List.getElem?_set_ne (Ne.symm hmi)]at hq
  exact d.aDu (λk hk=>⟨⟨hk.1.1.1,hk.1.2⟩,(if_neg hk.1.1.2).trans hk.2⟩) ((hr.2 m (q,m) (aQg hq)).2 hmi)
theorem bFd (h:H d e w base ok v xs i oki c) (hm:∀ k,ok k->¬ oki k->k<w.heap.size->w1.heap[k]? = w.heap[k]?):H d e w1 base ok v xs i oki c:=by
 obtain⟨ho,f,h⟩:=h
 exact⟨ho,f,aHr h (λk hk hlt=>hm k hk.1 hk.2 hlt)⟩
theorem bBu (h:H d e w base ok v xs i oki c) {row:Option Nat} (hg:w.grownBy w1 row) (hrow:∀ k,row=some k->oki k):H d e w1 base ok v xs i oki c :=
 bFd h (λk _ hn hlt=>hg.block k hlt (λhe=>hn (hrow k he.symm)))
theorem aRm {ad:Addr} (h:S d e W base ok (.slice (some ad) n cap) xs) (z:α) (i:Int) (h0:0<=i) (h1:i<n) :
  ∃ (oki:Nat->Prop) (c:List Value),c.length=d.sz/\d.M W base oki (xs.getD i.toNat z) c/\(∀ j u,c[j]? = some u->W.cell? (ad.add (i.toNat*d.sz+j))=some u)/\(∀ k,oki k->ok k/\some k≠(Value.slice (some ad) n cap).ownBlock) /\
   ∀ {w1:World} {row:Option Nat} {x':α},W.grownBy w1 row->(∀ k,row=some k->oki k)->d.M w1 base oki x' c->S d e w1 base ok (.slice (some ad) n cap) (xs.set i.toNat x'):=by
 obtain⟨g,rfl⟩:=aZ1 (S_R h)
 obtain⟨oki,c,hcl,hM,hcc,bG1,hH⟩:=bF3 h z i h0 h1
 refine⟨oki,c,hcl,hM,λj u hu=>?_,λk hk=>⟨(bG1 k hk).1,λhe=>(bG1 k hk).2 ?_⟩,λhg hrow hM1=>bFe (bBu hH hg hrow) hM1 (λ_ hk=>hk)⟩
 ·rw[aRl,Nat.zero_add]
  exact hcc j u hu
 ·simpa[Value.ownBlock]using he
end
end Kd
end Go.Proofs.YtfdaopkbibbhbaaW.PrintWords
