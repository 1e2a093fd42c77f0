/- A part of the proof of aF3. -/
import Derived.Test.YtnbljcgdgblgoaaGreatBFnListsWWords
import Derived.Test.YtnbljcgdgblgoaaGreatBFnListsWLast
set_option linter.unusedVariables false
set_option linter.unusedSimpArgs false
namespace Go.Proofs.YtnbljcgdgblgoaaGreatW.PrintWords
open Go.RowKit
namespace Kd
def tag {α:Type} (f:Nat->Nat) (d:Kd α):Kd (α×Nat) where
 sz:=d.sz
 E:=d.E
 K:=λw x cs=>d.K w x.1 cs
 M:=λw base ok x cs=>d.M w base (λk=>ok k/\f k=x.2) x.1 cs
 aHu:=λh=>d.aHu h
 aH5:=λh=>d.aH5 h
 aG2:=λhb h=>d.aG2 hb h
 aF4:=λh=>d.aF4 h
 aEa:=λhok h=>d.aEa (λk hk=>⟨hok k hk.1,hk.2⟩) h
 aF2:=λh=>d.aEa (λ_ hk=>⟨⟨hk.1.1,hk.2⟩,hk.1.2⟩) (d.aF2 h)
 aGb:=λhm h=>d.aGb (λk hk=>hm k hk.1) h
 aG1:=λhb h=>d.aG1 hb h
def bare {α:Type} (d:Kd α):Kd α where
 sz:=d.sz
 E:=d.E
 K:=d.K
 M:=λw base _ x cs=>d.M w base (λ_=>False) x cs
 aHu:=λh=>d.aHu h
 aH5:=λh=>d.aH5 h
 aG2:=λhb h=>d.aG2 hb h
 aF4:=λh=>d.aF4 h
 aEa:=λ_ h=>h
 aF2:=λh=>h
 aGb:=λ_ h=>d.aGb (λ_ hk=>hk.elim) h
 aG1:=λhb h=>d.aG1 hb h
def raw (sz:Nat):Kd (List Value) where
 sz:=sz
 E:=[]
 K:=λ_ x cs=>cs=x/\cs.length=sz/\∀ u∈cs,u.oneCell'=true
 M:=λ_ _ _ x cs=>cs=x/\cs.length=sz/\∀ u∈cs,u.oneCell'=true
 aHu:=λh=>h.2.1
 aH5:=λh=>h.2.2
 aG2:=λ_ h=>h
 aF4:=λh=>h
 aEa:=λ_ h=>h
 aF2:=λh=>h
 aGb:=λ_ h=>h
 aG1:=λ_ h=>h
def S {α:Type} (d:Kd α) (e:Nat) (w:World) (base:Nat) (ok:Nat->Prop) (v:Value) (xs:List α):Prop:=∃ f,(tag f d).R e w base ok v xs.zipIdx
section
variable {α β:Type} {d:Kd α} {d':Kd β} {e e':Nat} {w w1 W:World} {base b:Nat} {ok ok' okv oku:Nat->Prop} {u v:Value} {xs:List α} {ys:List β}
theorem aTz {xs:List α} {j:Nat} {p:α} (h:xs[j]? = some p):xs.zipIdx[j]? = some (p,j):=by rw[List.getElem?_zipIdx,h,Nat.zero_add];rfl
theorem S_R (h:S d e w base ok v xs):d.R e w base ok v xs:=by
 obtain⟨f,h0,inner,ho,hr⟩:=h
 rw[List.length_zipIdx]at ho
 exact⟨h0,inner,ho,by have:=hr.1;rw[List.length_zipIdx]at this;exact this,λj p hj=>d.aEa (λ_ hk=>hk.1) (hr.2 j (p,j) (aTz hj))⟩
theorem bAb {ad:Addr} {n cap:Nat} (h:d.R e w base ok (.slice (some ad) n cap) xs):∃ g,ad=⟨g,0,none⟩:=by
 obtain⟨_,inner,ho,hr⟩:=h
 rcases ho.2 with ⟨hv,_⟩|⟨g,cap',cur,hv,_⟩
 ·cases hv
 ·injection hv with ha _ _
  injection ha with ha
  exact⟨g,ha⟩
theorem bM8 {ad:Addr} {n cap:Nat} (h:d.R e W base ok (.slice (some ad) n cap) xs) (z:α) (i:Int) (h0:0<=i) (h1:i<n) :
  ∃ c,c.length=d.sz/\d.M W base (λk=>ok k/\some k≠(Value.slice (some ad) n cap).ownBlock) (xs.getD i.toNat z) c/\∀ j u,c[j]? = some u->W.cell? (ad.add (i.toNat*d.sz+j))=some u:=by
 obtain⟨g,rfl⟩:=bAb h
 obtain⟨c,hcl,hM,hcc,_⟩:=bEi h z i h0 h1
 refine⟨c,hcl,d.aEa (λk hk=>⟨hk.1,λhe=>hk.2 (by simpa[Value.ownBlock]using he)⟩) hM,λj u hu=>?_⟩
 rw[aRt,Nat.zero_add]
 exact hcc j u hu
theorem bPn (h:d.R e w base ok v xs):v.cells.toList=[v]/\v.oneCell'=true:=by
 obtain⟨A,c,rfl⟩:=aBr h
 exact⟨rfl,rfl⟩
theorem aLp (hE:d.E=[]) (h:d.R e w base ok v xs):d.R e w base (λk=>some k=v.ownBlock) v xs:=by
 obtain⟨h0,inner,ho,hr⟩:=h
 refine⟨λk hk=>hk.symm,inner,ho,hr.aOh (λp c hp=>d.aEa (λk hk=>?_) (d.aF2 hp))⟩
 obtain⟨_,_,_,q,hq,_⟩:=hk
 rw[hE]at hq
 cases hq
theorem aLo (d:Kd α) (e:Nat) (w:World) (base:Nat) (ok:Nat->Prop):S d e w base ok (.slice none 0 0) []:=⟨λ_=>0,aWt _ _ _ _ _⟩
theorem aE4 (h:S d e w base ok v xs) (hok:∀ k,ok k->ok' k):S d e w base ok' v xs:=by
 obtain⟨f,h⟩:=h
 exact⟨f,aBs h hok⟩
theorem aEp (h:S d e w base ok v xs):S d e w base (λk=>ok k/\base<=k/\k<w.heap.size/\∃ q,q∈e::d.E/\∃ cells,w.heap[k]? = some (.cells cells q (0,0))) v xs:=by
 obtain⟨f,h⟩:=h
 exact⟨f,aFg h⟩
theorem bM1 (h:S d e w base ok v xs) (hm:∀ k,ok k->w1.heap[k]? = w.heap[k]?):S d e w1 base ok v xs:=by
 obtain⟨f,h⟩:=h
 exact⟨f,aOo h hm⟩
theorem aJg {base':Nat} (h:S d e w base ok v xs) (hb:base'<=base):S d e w base' ok v xs:=by
 obtain⟨f,h⟩:=h
 exact⟨f,aCn h hb⟩
theorem bA4 (h:S d e w base ok v xs) (hm:∀ k,ok k->k<w.heap.size->w1.heap[k]? = w.heap[k]?):S d e w1 base ok v xs :=
 aE4 (bM1 (aEp h) (λk hk=>hm k hk.1 hk.2.2.1)) (λ_ hk=>hk.1)
theorem aD8 (h:S d e w base ok v xs) (hb:Below w.heap.size w w1):S d e w1 base ok v xs:=bA4 h (λk _ hk=>hb.block k hk)
theorem aE0 (h:S d e w base ok v xs) (o:Obj):S d e (w.alloc o) base ok v xs:=aD8 h (aB7 (Below.refl _ _) o)
theorem aE9 (h:S d e w base ok v xs):S d e w.drew base ok v xs:=aD8 h (aGi (Below.refl _ _))
theorem aDz (h:S d e w base ok v xs) (m:Nat):S d e (w.drewN m) base ok v xs:=aD8 h (aAs (Below.refl _ _) m)
theorem aNr (h:S d e w base ok v xs) {row:Option Nat} (hg:w.grownBy w1 row) (hok:∀ k,ok k->some k≠row):S d e w1 base ok v xs:=bA4 h (λk ho hk=>hg.block k hk (hok k ho))
theorem aPq (h:S d e w base ok v xs):∀ k,v.ownBlock=some k->∃ cells,w.heap[k]? = some (.cells cells e (0,0)):=bHd (S_R h)
theorem bEe (h:S d e w base ok v xs):∀ k,v.ownBlock=some k->k<w.heap.size:=aIv (S_R h)
theorem bA7 (h:S d e w base ok v xs):∀ k,v.ownBlock=some k->base<=k:=aDn (S_R h)
theorem aFf (h:S d e W base ok u xs) (hbase:∀ k,v.ownBlock=some k->W.heap.size<=k) (hb:Below W.heap.size W w1):S d e w1 base (λk=>ok k/\some k≠v.ownBlock) u xs:=by
 obtain⟨f,h⟩:=h
 exact⟨f,aDp h hbase hb⟩
theorem bM0 (h:S d e w1 W.heap.size ok v xs) (hlt:∀ k,u.ownBlock=some k->k<W.heap.size):S d e w1 W.heap.size (λk=>ok k/\some k≠u.ownBlock) v xs:=by
 obtain⟨f,h⟩:=h
 exact⟨f,aEt h hlt⟩
theorem aPt {v1:Value} (h:S d e W base (λk=>ok k/\some k≠v.ownBlock) u xs) (hg:W.grownBy w1 v.ownBlock) (hat:v1.ownBlock=v.ownBlock∨∃ b,v1.ownBlock=some b/\W.heap.size<=b):S d e w1 base (λk=>ok k/\some k≠v1.ownBlock) u xs:=by
 obtain⟨f,h⟩:=h
 exact⟨f,aJh h hg hat⟩
theorem bM3 (h:(bare d).R e w base ok v xs):S d e w base ok v xs:=by
 obtain⟨h0,inner,ho,hr⟩:=h
 refine⟨λ_=>0,h0,inner,by rw[List.length_zipIdx];exact ho,by rw[List.length_zipIdx];exact hr.1,λj p hj=>?_⟩
 rw[List.getElem?_zipIdx,Nat.zero_add]at hj
 obtain⟨x,hx,rfl⟩:=Option.map_eq_some_iff.1 hj
 exact d.aEa (λ_ hk=>hk.elim) (hr.2 j x hx)
theorem bPo {f f':Nat->Nat} {zs:List (α×Nat)} (h:(tag f d).R e w base ok v zs) (hf:∀ k,ok k->k<w.heap.size->f' k=f k):(tag f' d).R e w base ok v zs:=by
 obtain⟨h0,inner,ho,hr⟩:=aFg h
 exact⟨λk hk=>(h0 k hk).1,inner,ho,hr.1,λj p hj=>d.aEa (λk hk=>⟨⟨hk.1.1.1,hk.1.2⟩,(hf k hk.1.1.1 hk.1.1.2.2.1).trans hk.2⟩) (hr.2 j p hj)⟩
end
section
variable {α β:Type} {d:Kd α} {d':Kd β} {e e' g:Nat} {w w1 W:World} {base b:Nat} {ok ok' okv oku:Nat->Prop} {u v:Value} {xs:List α} {ys:List β}
theorem bRh (h:S d e w base ok v xs) {t:Nat} {cells:Array Value} (hb:w.heap[g]? = some (.cells cells t (0,0))) (ht:e≠t):some g≠v.ownBlock:=aF1 (S_R h) hb ht
theorem bA6 (h:S d e w base ok v xs) (hp:0<xs.length):∃ g cap,v = .slice (some ⟨g,0,none⟩) xs.length cap/\base<=g/\g<w.heap.size/\∃ cells,w.heap[g]? = some (.cells cells e (0,0)):=aHj (S_R h) hp
theorem aGa (h:S d e w base ok v xs):∃ A c,v = .slice A xs.length c:=aBr (S_R h)
theorem aTp (h:S d e w base ok v xs):∃ A c,v = .slice A xs.length c/\xs.length<=c/\d.C w A xs.length xs:=aLq (S_R h)
theorem aEm {A:Option Addr} {n c:Nat} (h:S d e w base ok (.slice A n c) xs):n=xs.length/\n<=c/\d.C w A xs.length xs:=aAl (S_R h)
theorem aPr {ad:Addr} {n cap:Nat} (h:S d e W base ok (.slice (some ad) n cap) xs) (z:α) (i:Int) (h0:0<=i) (h1:i<n) :
  ∃ c,c.length=d.sz/\d.M W base (λk=>ok k/\some k≠(Value.slice (some ad) n cap).ownBlock) (xs.getD i.toNat z) c/\∀ j u,c[j]? = some u->W.cell? (ad.add (i.toNat*d.sz+j))=some u:=bM8 (S_R h) z i h0 h1
theorem aTy (xs:List α) (p:α):(xs++[p]).zipIdx=xs.zipIdx++[(p,xs.length)]:=by rw[List.zipIdx_append];simp
end
section
open Classical in
theorem bLz {α:Type} {d:Kd α} {e base:Nat} {okv:Nat->Prop} {w:World} {v:Value} {xs:List α} (h:S d e w base okv v xs) (m:Nat) (okp:Nat->Prop) (hap:∀ k,okp k->¬ okv k):∃ f,(∀ k,okp k->f k=m)/\(tag f d).R e w base okv v xs.zipIdx:=by
 obtain⟨f,h⟩:=h
 exact⟨λk=>if okp k then m else f k,λk hk=>if_pos hk,bPo h (λk hk _=>if_neg (λh2=>hap k h2 hk))⟩
variable {P:Program} {ops:Array Oper} {rest:List Oper} {o:Oper} {a:Act} {Q:Exit->Act->World->Prop} {Kc:Act->World->Prop} {α:Type}
theorem aHg (d:Kd α) {w0 W:World} (base:Nat) (hgd:o.guard=none) (s x:Operand) (t e:TypeId) (z:Value) (bytes:Nat)
  (ho:o.op = .call { callee:=.builtin .append,args:=#[s,x],argTypes:=#[t,t]})
  (ht:P.underlying t=some (.slice e)) (hinfo:(P.info? e).map (λi=>(i.zero,i.size,i.bytes))=some (some z,d.sz,bytes)) (hz:z.cells.size=d.sz) (hs0:0<d.sz) (hb0:0<bytes)
  (v:Value) (xs:List α) (p:α) (cs:List Value) (ok okp:Nat->Prop) (hs:a.eval s=v) (hx:a.eval x = .slice (some ⟨W.heap.size,0,none⟩) 1 1) (hp:d.M W base okp p cs) (aRa:∀ k,okp k->ok k/\some k≠v.ownBlock) (hfresh:∀ k,W.heap.size<=k->ok k)
  (HO:S d e W base (λk=>ok k/\¬ okp k) v xs) (HB:Below base w0 W) (hbase:base<=W.heap.size) (hl:(xs.length+1)*bytes<=140737488355328)
  (h:∀ v1 w1,S d e w1 base ok v1 (xs++[p])->Below base w0 w1->W.grownBy w1 v.ownBlock->(v1.ownBlock=v.ownBlock∨∃ b,v1.ownBlock=some b/\W.heap.size<=b)->wpList P ops Q rest (a.put o.dst v1) w1) :
  wpList P ops Q (o::rest) a (W.alloc (.cells cs.toArray e)):=by
 obtain⟨f,hf,hR⟩:=bLz HO xs.length okp (λ_ hk h2=>h2.2 hk)
 refine aD5 (tag f d) base hgd s x t e z bytes ho ht hinfo hz hs0 hb0 v xs.zipIdx (p,xs.length) cs ok okp hs hx (d.aEa (λk hk=>⟨hk,hf k hk⟩) hp) aRa hfresh (aBs hR (λ_ hk=>hk.1)) HB hbase (by rw[List.length_zipIdx];exact hl) ?_
 intro v1 w1 hr
 rw[<-aTy]at hr
 exact h v1 w1 ⟨f,hr⟩
theorem aPs (d:Kd α) {w0 W:World} (base:Nat) (hw:Region.wanted o (yielded ops a.tmps)=true) (s x:Operand) (t e:TypeId) (z:Value) (bytes:Nat)
  (ho:o.op = .call { callee:=.builtin .append,args:=#[s,x],argTypes:=#[t,t]})
  (ht:P.underlying t=some (.slice e)) (hinfo:(P.info? e).map (λi=>(i.zero,i.size,i.bytes))=some (some z,d.sz,bytes)) (hz:z.cells.size=d.sz) (hs0:0<d.sz) (hb0:0<bytes)
  (v:Value) (xs:List α) (p:α) (cs:List Value) (ok okp:Nat->Prop) (hs:a.eval s=v) (hx:a.eval x = .slice (some ⟨W.heap.size,0,none⟩) 1 1) (hp:d.M W base okp p cs) (aRa:∀ k,okp k->ok k/\some k≠v.ownBlock) (hfresh:∀ k,W.heap.size<=k->ok k)
  (HO:S d e W base (λk=>ok k/\¬ okp k) v xs) (HB:Below base w0 W) (hbase:base<=W.heap.size) (hl:(xs.length+1)*bytes<=140737488355328)
  (h:∀ v1 w1,S d e w1 base ok v1 (xs++[p])->Below base w0 w1->W.grownBy w1 v.ownBlock->(v1.ownBlock=v.ownBlock∨∃ b,v1.ownBlock=some b/\W.heap.size<=b)->Kc (a.put o.dst v1) w1) :
  if Region.wanted o (yielded ops a.tmps)=true then Oper.wp P o a (W.alloc (.cells cs.toArray e)) Kc Q else Kc (a.put o.dst undef) (W.alloc (.cells cs.toArray e)):=by
 obtain⟨f,hf,hR⟩:=bLz HO xs.length okp (λ_ hk h2=>h2.2 hk)
 refine aL3 (tag f d) base hw s x t e z bytes ho ht hinfo hz hs0 hb0 v xs.zipIdx (p,xs.length) cs ok okp hs hx (d.aEa (λk hk=>⟨hk,hf k hk⟩) hp) aRa hfresh (aBs hR (λ_ hk=>hk.1)) HB hbase (by rw[List.length_zipIdx];exact hl) ?_
 intro v1 w1 hr
 rw[<-aTy]at hr
 exact h v1 w1 ⟨f,hr⟩
theorem bBs {d:Kd α} {w:World} {base:Nat} {ok:Nat->Prop} {xs:List α} {inner:List Value} (okj:Nat->Nat->Prop) (hap:∀ i j k,okj i k->okj j k->i=j) (hok:∀ j k,okj j k->ok k)
  (hl:inner.length=xs.length*d.sz) (hrep:∀ j x,xs[j]? = some x->d.M w base (okj j) x ((inner.drop (j*d.sz)).take d.sz)):∃ f,aEs ((tag f d).M w base ok) d.sz xs.zipIdx inner:=by
 refine⟨λk=>open Classical in if h:∃ j,okj j k then h.choose else 0,by rw[List.length_zipIdx];exact hl,λj p hj=>?_⟩
 rw[List.getElem?_zipIdx,Nat.zero_add]at hj
 obtain⟨x,hx,rfl⟩:=Option.map_eq_some_iff.1 hj
 refine d.aEa (λk hk=>⟨hok j k hk,?_⟩) (hrep j x hx)
 have h:∃ j,okj j k:=⟨j,hk⟩
 exact(dif_pos h).trans (hap _ _ k h.choose_spec hk)
theorem bEf (d:Kd α) {w0 W:World} (base e:Nat) (hgd:o.guard=none) {N:Tmp} (_hd:o.dst=some N) {xs:List α} {inner:List Value} {ok:Nat->Prop} (okj:Nat->Nat->Prop)
  (hrun:(execOp a.eval o).run P W = .ok (.value (.slice (some ⟨W.heap.size,0,none⟩) xs.length xs.length)) (W.alloc (.cells inner.toArray e)))
  (hl:inner.length=xs.length*d.sz) (hrep:∀ j x,xs[j]? = some x->d.M W base (okj j) x ((inner.drop (j*d.sz)).take d.sz)) (hap:∀ i j k,okj i k->okj j k->i=j) (hok:∀ j k,okj j k->ok k) (hfresh:ok W.heap.size) (HB:Below base w0 W) (hbase:base<=W.heap.size) (hm:xs.length<=9223372036854775807)
  (h:∀ v1 w1,S d e w1 base ok v1 xs->Below base w0 w1->W.grownBy w1 none->(∃ b,v1.ownBlock=some b/\W.heap.size<=b)->wpList P ops Q rest (a.put o.dst v1) w1):wpList P ops Q (o::rest) a W:=by
 obtain⟨f,hr⟩:=bBs (d:=d) (w:=W) (base:=base) (ok:=ok) okj hap hok hl hrep
 refine aL2 (tag f d) base e hgd _hd (xs:=xs.zipIdx) (inner:=inner) (ok:=ok) (okp:=ok) (by rw[List.length_zipIdx];exact hrun) hr (λ_ hk=>hk) hfresh HB hbase (by rw[List.length_zipIdx];exact hm) ?_
 intro v1 w1 hr
 exact h v1 w1 ⟨f,hr⟩
theorem bHb (d:Kd α) {w0 W:World} (base e:Nat) (hgd:o.guard=none) {N:Tmp} (_hd:o.dst=some N) {xs:List α} {inner:List Value} {ok okp:Nat->Prop}
  (hrun:(execOp a.eval o).run P W = .ok (.value (.slice (some ⟨W.heap.size,0,none⟩) xs.length xs.length)) (W.alloc (.cells inner.toArray e)))
  (hrep:aEs (d.M W base (λ_=>False)) d.sz xs inner) (bWh:∀ k,okp k->ok k) (hfresh:ok W.heap.size) (HB:Below base w0 W) (hbase:base<=W.heap.size) (hm:xs.length<=9223372036854775807)
  (h:∀ v1 w1,S d e w1 base ok v1 xs->Below base w0 w1->W.grownBy w1 none->(∃ b,v1.ownBlock=some b/\W.heap.size<=b)->wpList P ops Q rest (a.put o.dst v1) w1):wpList P ops Q (o::rest) a W :=
 aL2 (bare d) base e hgd _hd (ok:=ok) (okp:=ok) hrun hrep (λ_ hk=>hk) hfresh HB hbase hm (λv1 w1 hr=>h v1 w1 (bM3 hr))
end
def gap {α:Type} (f:Nat->Nat) (d:Kd α) (i:Nat) (c:List Value):Kd (α×Nat) where
 sz:=d.sz
 E:=d.E
 K:=λw x cs=>(x.2=i->cs=c/\cs.length=d.sz/\∀ u∈cs,u.oneCell'=true)/\(x.2≠i->d.K w x.1 cs)
 M:=λw base ok x cs=>(x.2=i->cs=c/\cs.length=d.sz/\∀ u∈cs,u.oneCell'=true)/\(x.2≠i->d.M w base (λk=>ok k/\f k=x.2) x.1 cs)
 aHu:=fun {w x cs} h=>by
  by_cases hx:x.2=i
  ·exact(h.1 hx).2.1
  ·exact d.aHu (h.2 hx)
 aH5:=fun {w x cs} h=>by
  by_cases hx:x.2=i
  ·exact(h.1 hx).2.2
  ·exact d.aH5 (h.2 hx)
 aG2:=λhb h=>⟨h.1,λhx=>d.aG2 hb (h.2 hx)⟩
 aF4:=λh=>⟨h.1,λhx=>d.aF4 (h.2 hx)⟩
 aEa:=λhok h=>⟨h.1,λhx=>d.aEa (λk hk=>⟨hok k hk.1,hk.2⟩) (h.2 hx)⟩
 aF2:=λh=>⟨h.1,λhx=>d.aEa (λ_ hk=>⟨⟨hk.1.1,hk.2⟩,hk.1.2⟩) (d.aF2 (h.2 hx))⟩
 aGb:=λhm h=>⟨h.1,λhx=>d.aGb (λk hk=>hm k hk.1) (h.2 hx)⟩
 aG1:=λhb h=>⟨h.1,λhx=>d.aG1 hb (h.2 hx)⟩
def H {α:Type} (d:Kd α) (e:Nat) (w:World) (base:Nat) (ok:Nat->Prop) (v:Value) (xs:List α) (i:Int) (oki:Nat->Prop) (c:List Value):Prop :=
 (∀ k,oki k->ok k)/\∃ f,(gap f d i.toNat c).R e w base (λk=>ok k/\¬ oki k) v xs.zipIdx
section
variable {α β:Type} {d:Kd α} {e e' g n cap:Nat} {w w1 W:World} {base:Nat} {ok ok' oki okp:Nat->Prop} {u v:Value} {xs:List α} {i:Int} {c:List Value}
theorem bM2 (h:S d e W base ok (.slice (some ⟨g,0,none⟩) n cap) xs) (z:α) (i:Int) (h0:0<=i) (h1:i<n) :
  ∃ (oki:Nat->Prop) (c:List Value),c.length=d.sz/\d.M W base oki (xs.getD i.toNat z) c/\(∀ j u,c[j]? = some u->W.cell? ⟨g,i.toNat*d.sz+j,none⟩=some u)/\(∀ k,oki k->ok k/\k≠g)/\H d e W base ok (.slice (some ⟨g,0,none⟩) n cap) xs i oki c:=by
 obtain⟨f,hR⟩:=h
 have hn:=(aAl hR).1
 rw[List.length_zipIdx]at hn
 have hgo:some g=(Value.slice (some ⟨g,0,none⟩) n cap).ownBlock:=by simp[Value.ownBlock]
 obtain⟨hok0,inner,ho,hr⟩:=hR
 have hil:i.toNat<xs.length:=by omega
 have hlen:inner.length=xs.length*d.sz:=by have:=hr.1;rw[List.length_zipIdx]at this;exact this
 have hseg:i.toNat*d.sz+d.sz<=inner.length:=by rw[hlen,<-Nat.succ_mul];exact Nat.mul_le_mul_right _ hil
 have hM:=hr.2 i.toNat _ (aTz (List.getElem?_eq_getElem hil))
 have hkg:∀ k,some k≠(Value.slice (some ⟨g,0,none⟩) n cap).ownBlock->k≠g:=λk hk he=>hk (by rw[he];exact hgo)
 refine⟨λk=>(ok k/\k≠g)/\f k=i.toNat,(inner.drop (i.toNat*d.sz)).take d.sz,by rw[List.length_take,List.length_drop];omega,?_,λj u hu=>?_,λk hk=>hk.1,λk hk=>hk.1.1,f,λk hk=>⟨hok0 k hk,λh2=>h2.1.2 ?_⟩,inner,ho,hr.1,λm p hm=>?_⟩
 ·rw[List.getD_eq_getElem?_getD,List.getElem?_eq_getElem hil]
  exact d.aEa (λk hk=>⟨⟨hk.1.1,hkg k hk.1.2⟩,hk.2⟩) hM
 ·rw[List.getElem?_take]at hu
  split at hu
  ·rw[List.getElem?_drop]at hu
   have:=ho.cells (g:=g) hgo.symm _ u hu
   rwa[add_plain]at this
  ·cases hu
 ·rw[<-hgo]at hk;injection hk with hk;exact hk.symm
 ·have hold:=hr.2 m p hm
  have hp2:p.2=m:=by
   rw[List.getElem?_zipIdx,Nat.zero_add]at hm
   obtain⟨q,_,rfl⟩:=Option.map_eq_some_iff.1 hm
   rfl
  refine⟨λhx=>?_,λhx=>d.aEa (λk hk=>⟨⟨⟨hk.1.1,λh2=>hx ?_⟩,hk.1.2⟩,hk.2⟩) hold⟩
  ·have hmi:m=i.toNat:=by omega
   subst hmi
   exact⟨rfl,d.aHu (d.aF4 hM),d.aH5 (d.aF4 hM)⟩
  ·rw[<-hk.2];exact h2.2
open Classical in
theorem bMf (h:H d e w base ok v xs i oki c) {x':α} (hM:d.M w base okp x' c) (hok:∀ k,okp k->oki k):S d e w base ok v (xs.set i.toNat x'):=by
 obtain⟨ho,f,h0,inner,hown,hr⟩:=h
 refine⟨λk=>if oki k then i.toNat else f k,λk hk=>(h0 k hk).1,inner,by rw[List.length_zipIdx,List.length_set];rw[List.length_zipIdx]at hown;exact hown,by have:=hr.1;rw[List.length_zipIdx]at this;rw[List.length_zipIdx,List.length_set];exact this,λm p hm=>?_⟩
 rw[List.getElem?_zipIdx,Nat.zero_add]at hm
 obtain⟨q,hq,rfl⟩:=Option.map_eq_some_iff.1 hm
 have hml:m<xs.length:=by
  have:=(List.getElem?_eq_some_iff.1 hq).1
  rwa[List.length_set]at this
 by_cases hmi:m=i.toNat
 ·subst hmi
  rw[List.getElem?_set_self hml]at hq
  injection hq with hq
  subst hq
  have hc:=((hr.2 i.toNat _ (aTz (List.getElem?_eq_getElem hml))).1 rfl).1
  show d.M w base _ x' ((inner.drop (i.toNat*d.sz)).take d.sz)
  rw[show (inner.drop (i.toNat*d.sz)).take d.sz=c from hc]
  exact d.aEa (λk hk=>⟨⟨ho k (hok k hk),λhe=>(h0 k he.symm).2 (hok k hk)⟩,if_pos (hok k hk)⟩) hM
 ·rw[List.getElem?_set_ne (Ne.symm hmi)]at hq
  exact d.aEa (λk hk=>⟨⟨hk.1.1.1,hk.1.2⟩,(if_neg hk.1.1.2).trans hk.2⟩) ((hr.2 m (q,m) (aTz hq)).2 hmi)
theorem bMe (h:H d e w base ok v xs i oki c) (hm:∀ k,ok k->¬ oki k->k<w.heap.size->w1.heap[k]? = w.heap[k]?):H d e w1 base ok v xs i oki c:=by
 obtain⟨ho,f,h⟩:=h
 exact⟨ho,f,aHh h (λk hk hlt=>hm k hk.1 hk.2 hlt)⟩
theorem bHg (h:H d e w base ok v xs i oki c) {row:Option Nat} (hg:w.grownBy w1 row) (hrow:∀ k,row=some k->oki k):H d e w1 base ok v xs i oki c :=
 bMe h (λk _ hn hlt=>hg.block k hlt (λhe=>hn (hrow k he.symm)))
theorem bD9 {ad:Addr} (h:S d e W base ok (.slice (some ad) n cap) xs) (z:α) (i:Int) (h0:0<=i) (h1:i<n) :
  ∃ (oki:Nat->Prop) (c:List Value),c.length=d.sz/\d.M W base oki (xs.getD i.toNat z) c/\(∀ j u,c[j]? = some u->W.cell? (ad.add (i.toNat*d.sz+j))=some u)/\(∀ k,oki k->ok k/\some k≠(Value.slice (some ad) n cap).ownBlock) /\
   ∀ {w1:World} {row:Option Nat} {x':α},W.grownBy w1 row->(∀ k,row=some k->oki k)->d.M w1 base oki x' c->S d e w1 base ok (.slice (some ad) n cap) (xs.set i.toNat x'):=by
 obtain⟨g,rfl⟩:=bAb (S_R h)
 obtain⟨oki,c,hcl,hM,hcc,bNo,hH⟩:=bM2 h z i h0 h1
 refine⟨oki,c,hcl,hM,λj u hu=>?_,λk hk=>⟨(bNo k hk).1,λhe=>(bNo k hk).2 ?_⟩,λhg hrow hM1=>bMf (bHg hH hg hrow) hM1 (λ_ hk=>hk)⟩
 ·rw[aRt,Nat.zero_add]
  exact hcc j u hu
 ·simpa[Value.ownBlock]using he
end
end Kd
end Go.Proofs.YtnbljcgdgblgoaaGreatW.PrintWords
