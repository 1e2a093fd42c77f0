/- A part of the proof of aF3. -/
import Derived.Test.YtnbljcgdgblgoaaGreatBFnLists5
import Derived.Test.YtnbljcgdgblgoaaGreatBFnLists4
import Derived.Test.YtnbljcgdgblgoaaGreatBFnLists3
import Derived.Test.YtnbljcgdgblgoaaGreatBFnLists2
import Derived.Test.YtnbljcgdgblgoaaGreatBFnLists0
import Derived.Test.YtnbljcgdgblgoaaGreatBFnLists1
import Derived.Deep.Slices
import Derived.Lib.SmallJoins
import Derived.ChangeSame
import Derived.Test.YtnbljcgdgblgoaaGreatRows
import Derived.JoinedOf
import Derived.KernelRfl
set_option linter.unusedVariables false
set_option linter.unusedSimpArgs false
set_option maxRecDepth 100000
namespace Go.Proofs.YtnbljcgdgblgoaaGreat
namespace Cf
open Go.RowKit Go.Proofs.YtnbljcgdgblgoaaGreatW.PrintWords P
theorem aSt {n:Int} {es:List E} {p:List Int} {q:Int} (h:pOk n es p q=true):∃ m:Nat,n=m/\Gr m es q/\Pre m q p/\Bd p 60/\Mod p:=by
 obtain⟨m,rfl,g,hp⟩:=bFn h
 obtain⟨⟨_,_,h3⟩,_⟩:=aP7.1 h
 exact⟨m,rfl,g,hp,Bd.bQp h3,λx hx=>by have:=h3 x hx;omega⟩
theorem aY8 {n:Int} {es:List E} {p:List Int} {q:Int} (h:sOk n es p q=true):pOk n es p q=true:=by
 unfold sOk at h
 rw[Bool.and_eq_true]at h
 exact h.1
def aQs (q:Int) (c:List Int):Nat->Nat->Bool
 | 0,_=>true
 | d+1,i=>if(i:Int)=q then aQs q c d (i+1) else if rd c i=1 then aQs q c d (i+1) else false
def aS1 (n:Nat) (es:List E) (q:Int) (p:List Int):List Int:=aMa n λw=>rd p w+mult es q w
theorem bC6 {n:Nat} {es:List E} {q:Int} (g:Gr n es q) {p:List Int} (hp:Pre n q p) (hb:Bd p 60):Pre n q (aS1 n es q p) where
 len:=aHb _ _
 bd:=λv v0 v1 v2=>by
  have e:rd (aS1 n es q p) v=rd p v+mult es q v:=(aEy n _).2 v v0 v1
  have h0:=aFe es q v
  have h1:=aJ7 es q v
  have h2:=hp.bd v v0 v1 v2
  have h3:=hb v v0 (by have:=hp.len;omega)
  have:=g.hel
  omega
 bA0:=by
  have e:rd (aS1 n es q p) q=rd p q+mult es q q:=(aEy n _).2 q g.hq.1 g.hq.2
  rw[e,hp.bA0,aKt g.hes]
  rfl
noncomputable def isR (n:Nat) (es:List E) (q:Int) (p:List Int):Bool:=if aQs q (aGe n es q (aS1 n es q p)).2 (aGe n es q (aS1 n es q p)).2.length 0=true then decide ((aGe n es q (aS1 n es q p)).1=p) else false
noncomputable def aYh (n:Int) (es:List E) (p:List Int) (q:Int):Bool:=sOk n es p q&&isR n.toNat es q p
theorem aWf (q:Int) (p x c:List Int) (hx:x.length<=1048576) (hc:c.length<=1048576):∀ (d i:Nat),i+d=c.length->Ep (λk=>aB3.l0 k p q x c (c.length:Int) (i:Int)) (·=if aQs q c d i=true then decide (x=p) else false):=by
 intro d
 induction d with
 | zero =>
  intro i hi
  refine Ep.up ?_
  simp only[aB3.l0]
  refine Ep.neg (by omega) (Ep.bind (bCg x p hx) ?_)
  rintro _ rfl
  exact Ep.now rfl
 | succ d ih =>
  intro i hi
  refine Ep.up ?_
  simp only[aB3.l0]
  rw[wrap_succ (by omega)]
  unfold aQs
  refine Ep.pos (by omega) (Ep.pos (by omega) (Ep.pos (by omega) (Ep.ite (λh=>?_) (λh=>Ep.ite (λh2=>?_) (λh2=>Ep.now ?_)))))
  ·rw[if_pos h]
   exact ih (i+1) (by omega)
  ·rw[if_neg h,if_pos h2]
   exact ih (i+1) (by omega)
  ·rw[if_neg h,if_neg h2]
   rfl
theorem aR6 (n:Int) (es:List E) (p:List Int) (q:Int) (hel:es.length<=1048576) (hl:p.length<=1048576):Ep (λk=>aB3.f k n es p q) (·=aYh n es p q):=by
 simp only[aB3.f,aYh]
 refine Ep.bind (aWe n es p q hel hl) ?_
 rintro _ rfl
 refine Ep.ite (λh=>?_) (λh=>Ep.now ?_)
 ·obtain⟨m,rfl,g,hp,hb,_⟩:=aSt (aY8 h)
  rw[h]
  have hpl:=hp.len
  have hq:=g.hq
  have hlen:=aSl es q (aS1 m es q p) g.n6
  refine Ep.aEr (copy_eq p hl) ?_
  refine Ep.bind (aV4 m es g.hes g.hel p q 1 hpl hq (B:=60) (K:=1) ⟨by omega,by omega⟩ hb (by omega) (by omega)) ?_
  rintro r ⟨hr,_⟩
  have hr':=hr.rep hpl
  refine Ep.pos (by omega) (Ep.pos (by omega) ?_)
  have e:r.set q.toNat 0=aS1 m es q p:=((hr'.set hq.1 hq.2 0).congr (t:=λw=>rd p w+mult es q w) λw w0 w1=>by
   by_cases c:w=q
   ·rw[if_pos c,c,hp.bA0,aKt g.hes];rfl
   ·rw[if_neg c,aLh g.hes c];omega).eq
  rw[e]
  refine Ep.bind (bCf g (bC6 g hp hb)) ?_
  rintro _ rfl
  refine(aWf q p _ _ (by omega) (by omega) (aGe m es q (aS1 m es q p)).2.length 0 (by omega)).mono ?_
  rintro _ rfl
  rfl
 ·have:sOk n es p q=false:=by simpa using h
  rw[this]
  rfl
theorem aP3 {n:Int} {es:List E} {p:List Int} {q:Int} (h:aYh n es p q=true):pOk n es p q=true:=by
 unfold aYh at h
 rw[Bool.and_eq_true]at h
 exact aY8 h.1
theorem aGs {n:Nat} {es:List E} {q:Int} (g:Gr n es q) (hg:GOk (n:Int) es):(aEg (n:Int) es q).length=n/\Bd (aEg (n:Int) es q) 12:=by
 have e:aEg (n:Int) es q=aIp n es q:=by
  unfold aEg
  rw[if_pos ⟨aE8.2 hg,g.hq⟩]
 rw[e]
 have hl:(aIp (n:Int) es q).length=n:=by simp[aIp]
 refine⟨hl,λw w0 w1=>?_⟩
 obtain⟨i,rfl⟩:=Int.eq_ofNat_of_zero_le w0
 rw[aEc (by omega)]
 simp only[aIp,List.getElem_map,List.getElem_range]
 unfold aJy
 have:=aXq (n:=n) (es:=es) (v:=i)
 have:=g.hel
 split<;>omega
def rcR (n:Nat) (es:List E) (q:Int) (x:List Int):List Int:=(minL (aEg (n:Int) es q) x).set q.toNat 0
def rcL (n:Nat) (es:List E) (q:Int):List (List Int):=(aJ1 n es q).map (rcR n es q)
section
variable {n:Nat} {es:List E} {q:Int}
theorem aYf (g:Gr n es q) {x:List Int} (h:x∈aJ1 n es q):Bd x 12:=by
 obtain⟨h1,h2⟩:=aFd h
 intro w h0 hw
 obtain⟨w,rfl⟩:=Int.eq_ofNat_of_zero_le h0
 have hlt:w<x.length:=by omega
 have h3:=h2 w hlt
 have h4:=aZs g w
 rw[aEc hlt]
 omega
theorem bL6 (g:Gr n es q) (hg:GOk (n:Int) es):rd (aEg (n:Int) es q) q=0:=by
 have hq:=g.hq
 have e:aEg (n:Int) es q=aIp n es q:=by
  unfold aEg
  rw[if_pos ⟨aE8.2 hg,by omega,by omega⟩]
 obtain⟨i,rfl⟩:=Int.eq_ofNat_of_zero_le (show 0<=q by omega)
 rw[e,aJv]
 unfold aIp
 rw[zdG,List.getElem?_map,List.getElem?_range (by omega)]
 show (aJy (n:Int) es (i:Int) i)=0
 unfold aJy
 rw[if_pos rfl]
theorem aP4 (g:Gr n es q) (hg:GOk (n:Int) es) (x:List Int):(rcR n es q x).length=n:=by
 unfold rcR
 rw[List.length_set,aKu]
 exact(aGs g hg).1
theorem aYj (g:Gr n es q) (hg:GOk (n:Int) es) {x:List Int} (h:x∈aJ1 n es q):minL (aEg (n:Int) es q) x=rcR n es q x:=by
 have hq:=g.hq
 have hf:=(aGs g hg).1
 have hlt:q.toNat<(minL (aEg (n:Int) es q) x).length:=by rw[aKu];omega
 have h0:(minL (aEg (n:Int) es q) x)[q.toNat]=0:=by
  have h1:rd (minL (aEg (n:Int) es q) x) (q.toNat:Int)=rd (aEg (n:Int) es q) (q.toNat:Int)-rd x (q.toNat:Int):=(aEy (aEg (n:Int) es q).length _).2 _ (by omega) (by omega)
  rw[aEc hlt,Int.toNat_of_nonneg (by omega),bL6 g hg]at h1
  have h2:=aKo g h
  rw[<-aJv,Int.toNat_of_nonneg (by omega)]at h2
  omega
 unfold rcR
 conv=>rhs;rw[<-h0]
 rw[List.set_getElem_self]
theorem bJ6 (g:Gr n es q) (hg:GOk (n:Int) es) {x:List Int} (h:x∈aJ1 n es q):Ep (λk=>aAd.row k (aEg (n:Int) es q) x) (·=rcR n es q x):=by
 have hf:=aGs g hg
 have hl:=(aFd h).1
 have h6:=g.n6
 have hb:=aYf g h
 simp only[aAd.row]
 refine Ep.bind (aT4 x (by omega) (hb.mono (by omega))) ?_
 rintro _ rfl
 refine(aPe _ _ (by omega) (by rw[aPa];omega) (hf.2.mono (by omega)) ((aSw hb).mono (by omega))).mono ?_
 intro r hr
 rw[hr,aP5 (by omega),aYj g hg h]
theorem bFf (g:Gr n es q):(rcL n es q).length<=248832:=by unfold rcL;rw[List.length_map];exact aP1 g
theorem aSp (g:Gr n es q) (hg:GOk (n:Int) es) {x:List Int} (h:x∈rcL n es q):x.length=n:=by
 obtain⟨y,_,rfl⟩:=List.mem_map.1 h
 exact aP4 g hg y
theorem bFy (g:Gr n es q) (hg:GOk (n:Int) es):Ep (λk=>if aAd.ok k (aEg (n:Int) es q) (aJ1 n es q) then some (sortL (aAd.rows k (aEg (n:Int) es q) (aJ1 n es q)),true) else none) (·=(sortL (rcL n es q),true)):=by
 have h6:=g.n6
 obtain⟨K1,hK1⟩:=Ep.all (f:=λk x=>aAd.row k (aEg (n:Int) es q) x) (g:=λx=>rcR n es q x) (aJ1 n es q) λx hx=>bJ6 g hg hx
 obtain⟨K2,hK2⟩:=bGs (L:=rcL n es q) (n:=n) (by omega) λx hx=>aSp g hg hx
 refine⟨_,rfl,max K1 K2,λk hk=>?_⟩
 have e:aAd.rows k (aEg (n:Int) es q) (aJ1 n es q)=rcL n es q:=by
  unfold aAd.rows rcL
  refine List.map_congr_left λx hx=>?_
  rw[hK1 k (by omega) x hx]
  rfl
 have hl:=aP1 g
 show (if aAd.ok k (aEg (n:Int) es q) (aJ1 n es q) then _ else _)=_
 rw[if_pos,e]
 refine⟨λx hx=>by rw[hK1 k (by omega) x hx];rfl,by omega,?_⟩
 rw[e]
 exact hK2 k (by omega)
end
open Classical in
noncomputable def rcO (n:Int) (es:List E) (q:Int):List (List Int)×Bool:=if gOk n es=true/\(0<=q/\q<n)/\aIn es (vsL n.toNat 0)<=400 then(sortL (rcL n.toNat es q),true) else([],false)
theorem bJz (n:Int) (es:List E) (q:Int) (hn:Wf .i64 n):Ep (λk=>aAd.f k n es q) (·=rcO n es q):=by
 simp only[aAd.f]
 refine Ep.aEr (aH2 n es q hn) ?_
 unfold rcO
 by_cases c:gOk n es=true
 ·by_cases hq:0<=q/\q<n
  ·have hg:=aE8.1 c
   obtain⟨m,rfl⟩:=Int.eq_ofNat_of_zero_le (show 0<=n by omega)
   have g:Gr m es q:=Gr.of hg hq
   simp only[Int.toNat_natCast]
   refine Ep.pos (by rw[c,zdY hq];rfl) (Ep.bind (bDz hg) ?_)
   rintro _ rfl
   by_cases h4:aIn es (vsL m 0)<=400
   ·rw[if_pos ⟨c,hq,h4⟩]
    refine Ep.pos h4 (Ep.bind (aPf (m:Int) es q hn) ?_)
    rintro _ rfl
    refine Ep.bind (aZ5 g) ?_
    rintro _ rfl
    exact bFy g hg
   ·rw[if_neg λh=>h4 h.2.2]
    exact Ep.neg h4 (Ep.now rfl)
  ·rw[if_neg λh=>hq h.2.1]
   exact Ep.neg (by rw[zdN hq];simp) (Ep.now rfl)
 ·rw[if_neg λh=>c h.1]
  exact Ep.neg (by rw[Bool.eq_false_iff.2 c];simp) (Ep.now rfl)
end Cf
namespace Cf
open Go.RowKit Go.Proofs.YtnbljcgdgblgoaaGreatW.PrintWords
def Span (A:List E) (vs:List Int):Prop:=∀ v∈vs,∃ u,u∉vs/\aH6 A u v
theorem Span.sub {A B:List E} {vs:List Int} (h:Span A vs) (hs:∀ e∈A,e∈B):Span B vs:=λv hv=>by
 obtain⟨u,hu,hc⟩:=h v hv
 exact⟨u,hu,hc.sub hs⟩
theorem aN5 {e:E} {A:List E} {vs:List Int} (h0:e.f0∉vs) (h1:e.f1∉vs):Span (e::A) vs↔Span A vs:=by
 refine⟨λh v hv=>?_,λh=>h.sub λx hx=>List.mem_cons_of_mem _ hx⟩
 obtain⟨u,hu,hc⟩:=h v hv
 have key:∀ x,aH6 (e::A) u x->x∈vs->∃ u',u'∉vs/\aH6 A u' x:=by
  intro x hx
  induction hx with
  | refl=>exact λh=>absurd h hu
  | tail hy aL9 ih =>
   rename_i y x
   intro hxv
   obtain⟨f,hf,hfx⟩:=aL9
   have hfe:f∈A:=by
    rcases List.mem_cons.1 hf with rfl|hf
    ·rcases hfx with h|h
     ·exact absurd (h.2▸hxv) h1
     ·exact absurd (h.1▸hxv) h0
    ·exact hf
   by_cases hyv:y∈vs
   ·obtain⟨u',hu',hc'⟩:=ih hyv
    exact⟨u',hu',hc'.tail ⟨f,hfe,hfx⟩⟩
   ·exact⟨y,hyv,aH6.one ⟨f,hfe,hfx⟩⟩
 exact key v hc hv
theorem aP0 {e:E} {A:List E} {vs:List Int} {u v:Int} (huv:(e.f0=u/\e.f1=v)∨(e.f0=v/\e.f1=u)) (hn:vs.Nodup) (hv:v∈vs) (hu:u∉vs):Span (e::A) vs↔Span A (vs.erase v):=by
 have hve:v∉vs.erase v:=λh=>(hn.mem_erase_iff.1 h).1 rfl
 have hue:u∉vs.erase v:=λh=>hu (List.mem_of_mem_erase h)
 constructor
 ·intro h
  have h2:Span (e::A) (vs.erase v):=λw hw=>by
   obtain⟨x,hx,hc⟩:=h w (List.mem_of_mem_erase hw)
   exact⟨x,λq=>hx (List.mem_of_mem_erase q),hc⟩
  exact(aN5 (by rcases huv with q|q<;>rw[q.1]<;>assumption) (by rcases huv with q|q<;>rw[q.2]<;>assumption)).1 h2
 ·intro h w hw
  have aL9:aH6 (e::A) u v:=aH6.one ⟨e,List.mem_cons_self,huv⟩
  by_cases c:w=v
  ·exact⟨u,hu,c▸aL9⟩
  ·obtain⟨x,hx,hc⟩:=h w (hn.mem_erase_iff.2 ⟨c,hw⟩)
   have hc':aH6 (e::A) x w:=hc.sub λy hy=>List.mem_cons_of_mem _ hy
   by_cases d:x=v
   ·exact⟨u,hu,aL9.trans (d▸hc')⟩
   ·exact⟨x,λq=>hx (hn.mem_erase_iff.2 ⟨d,q⟩),hc'⟩
theorem aUd {A:List E} {vs:List Int} (hv:vs≠[]) (hf:∀ e∈A,e.f0∈vs↔e.f1∈vs):¬ Span A vs:=λh=>by
 cases vs with
 | nil=>exact hv rfl
 | cons v vs =>
  obtain⟨u,hu,hc⟩:=h v List.mem_cons_self
  have:(λx=>x∉v::vs) v:=hc.closed (S:=λx=>x∉v::vs) (λa b ha hab hb=>by
   obtain⟨e,he,hx⟩:=hab
   have:=hf e he
   rcases hx with ⟨x0,x1⟩|⟨x0,x1⟩
   ·rw[x0,x1]at this;exact ha (this.2 hb)
   ·rw[x0,x1]at this;exact ha (this.1 hb)) hu
  exact this List.mem_cons_self
theorem aUc:∀ (m:Nat) {A:List E} {vs:List Int},vs.length=m->vs.Nodup->Span A vs->m<=A.length:=by
 intro m
 induction m with
 | zero=>intro A vs _ _ _;omega
 | succ m ih =>
  intro A vs hm hn h
  have hx:∃ e∈A,∃ u v:Int,((e.f0=u/\e.f1=v)∨(e.f0=v/\e.f1=u))/\v∈vs/\u∉vs:=by
   apply Classical.byContradiction
   intro hno
   refine aUd (vs:=vs) (λe=>by rw[e]at hm;simp at hm) (λe he=>⟨λh0=>Classical.byContradiction λh1=>hno ⟨e,he,e.f1,e.f0,.inr ⟨rfl,rfl⟩,h0,h1⟩,λh1=>Classical.byContradiction λh0=>hno ⟨e,he,e.f0,e.f1,.inl ⟨rfl,rfl⟩,h1,h0⟩⟩) h
  obtain⟨e,he,u,v,huv,hv,hu⟩:=hx
  obtain⟨l1,l2,rfl⟩:=List.append_of_mem he
  have h2:Span (e::(l1++l2)) vs:=h.sub λx hx=>by simp at hx ⊢;rcases hx with q|q|q<;>simp[q]
  have:=ih (by rw[List.length_erase_of_mem hv,hm];rfl) (hn.erase v) ((aP0 huv hn hv hu).1 h2)
  simp at this ⊢
  omega
def aHn:List E->(List E->Int)->Int
 | [],f=>f []
 | e::es,f=>aHn es f+aHn es λA=>f (e::A)
theorem aG3:∀ {es:List E} {f g:List E->Int},(∀ A,(∀ e∈A,e∈es)->f A=g A)->aHn es f=aHn es g
 | [],f,g,h=>h [] λ_ h=>h
 | e::es,f,g,h=>by
  unfold aHn
  rw[aG3 (es:=es) (f:=f) (g:=g) λA hA=>h A λx hx=>List.mem_cons_of_mem _ (hA x hx),aG3 (es:=es) (f:=λA=>f (e::A)) (g:=λA=>g (e::A)) λA hA=>h _ λx hx=>by
   rcases List.mem_cons.1 hx with rfl|hx
   ·exact List.mem_cons_self
   ·exact List.mem_cons_of_mem _ (hA x hx)]
theorem bBo (es:List E):∀ (f g:List E->Int),aHn es (λA=>f A+g A)=aHn es f+aHn es g:=by
 induction es with
 | nil=>intro f g;rfl
 | cons e es ih =>
  intro f g
  unfold aHn
  rw[ih f g,ih (λA=>f (e::A)) (λA=>g (e::A))]
  omega
theorem aU6 (es:List E) (c:Int):∀ (f:List E->Int),aHn es (λA=>c*f A)=c*aHn es f:=by
 induction es with
 | nil=>intro f;rfl
 | cons e es ih =>
  intro f
  unfold aHn
  rw[ih f,ih λA=>f (e::A),Int.mul_add]
theorem aXx {es:List E} {f:List E->Int} (h:∀ A,(∀ e∈A,e∈es)->f A=0):aHn es f=0:=by
 rw[aG3 (g:=λ_=>0*0) λA hA=>h A hA,aU6 es 0 λ_=>0,Int.zero_mul]
theorem aXy {es es':List E} (h:es.Perm es'):∀ {f:List E->Int},(∀ A B,A.Perm B->f A=f B)->aHn es f=aHn es' f:=by
 induction h with
 | nil=>intro f _;rfl
 | cons x _ ih =>
  intro f hf
  unfold aHn
  rw[ih hf,ih (f:=λA=>f (x::A)) λA B hAB=>hf _ _ (hAB.cons x)]
 | swap x y l =>
  intro f hf
  have e:aHn l (λA=>f (y::x::A))=aHn l λA=>f (x::y::A):=aG3 λA _=>hf _ _ (List.Perm.swap x y A)
  show aHn l f+aHn l (λA=>f (x::A))+(aHn l (λA=>f (y::A))+aHn l λA=>f (y::x::A))=aHn l f+aHn l (λA=>f (y::A))+(aHn l (λA=>f (x::A))+aHn l λA=>f (x::y::A))
  omega
 | trans _ _ h1 h2=>intro f hf;exact(h1 hf).trans (h2 hf)
open Classical in
noncomputable def zt (c:Int) (vs:List Int) (A:List E):Int:=if Span A vs then(c-1)^(A.length-vs.length) else 0
theorem aLv {c:Int} {vs:List Int} {A:List E} (h:Span A vs):zt c vs A=(c-1)^(A.length-vs.length):=if_pos h
theorem aJt {c:Int} {vs:List Int} {A:List E} (h:¬ Span A vs):zt c vs A=0:=if_neg h
noncomputable def bN6 (c:Int) (es:List E) (vs:List Int):Int:=aHn es (zt c vs)
theorem aQg {A B:List E} (h:A.Perm B) (vs:List Int):Span A vs↔Span B vs:=⟨λk=>k.sub λ_ hx=>h.mem_iff.1 hx,λk=>k.sub λ_ hx=>h.mem_iff.2 hx⟩
theorem bBh (c:Int):Rec c (bN6 c) where
 perm:=fun {es es' vs} h=>aXy h λA B hAB=>by
  by_cases k:Span A vs
  ·rw[aLv k,aLv ((aQg hAB vs).1 k),hAB.length_eq]
  ·rw[aJt k,aJt λq=>k ((aQg hAB vs).2 q)]
 nil:=by
  show zt c [] []=1
  rw[aLv λv hv=>by cases hv]
  simp
 loop:=λe es vs hnd h0 h1=>by
  show aHn es (zt c vs)+aHn es (λA=>zt c vs (e::A))=c*aHn es (zt c vs)
  rw[<-bBo,<-aU6]
  refine aG3 λA _=>?_
  by_cases k:Span A vs
  ·rw[aLv k,aLv ((aN5 h0 h1).2 k)]
   have hn:=aUc vs.length rfl hnd k
   rw[List.length_cons,show A.length+1-vs.length=A.length-vs.length+1 by omega,Int.pow_succ]
   generalize (c-1)^(A.length-vs.length)=p
   rw[Int.mul_sub,Int.mul_comm p c]
   omega
  ·rw[aJt k,aJt λq=>k ((aN5 h0 h1).1 q)]
   simp
 cut:=λe es vs u v huv _ hn hv hu=>by
  show aHn es (zt c vs)+aHn es (λA=>zt c vs (e::A))=aHn es (zt c vs)+aHn es (zt c (vs.erase v))
  congr 1
  refine aG3 λA _=>?_
  have hl:=List.length_erase_of_mem hv
  have hp:0<vs.length:=List.length_pos_of_mem hv
  by_cases k:Span A (vs.erase v)
  ·rw[aLv k,aLv ((aP0 huv hn hv hu).2 k),List.length_cons,hl,show A.length+1-vs.length=A.length-(vs.length-1) by omega]
  ·rw[aJt k,aJt λq=>k ((aP0 huv hn hv hu).1 q)]
 far:=λes vs _ _ hv hf=>aXx λA hA=>aJt (aUd hv λe he=>hf e (hA e he))
def Cnt {α:Type} (S:α->Prop) (k:Int):Prop:=∃ L:List α,L.Nodup/\(∀ x,x∈L↔S x)/\(L.length:Int)=k
open Classical in
theorem aNc {α:Type}:∀ {L M:List α},L.Nodup->(∀ x∈L,x∈M)->L.length<=M.length
 | [],M,_,_=>Nat.zero_le _
 | a::L,M,hn,h=>by
  have ha:=h a List.mem_cons_self
  have h1:=aNc (L:=L) (M:=M.erase a) (List.nodup_cons.1 hn).2 λx hx=>by
   have hxa:x≠a:=λe=>(List.nodup_cons.1 hn).1 (e▸hx)
   exact(List.mem_erase_of_ne hxa).2 (h x (List.mem_cons_of_mem _ hx))
  rw[List.length_erase_of_mem ha]at h1
  have:=List.length_pos_of_mem ha
  rw[List.length_cons]
  omega
theorem Cnt.unique {α:Type} {S:α->Prop} {k m:Int} (h:Cnt S k) (h':Cnt S m):k=m:=by
 obtain⟨L,hL,hs,rfl⟩:=h
 obtain⟨M,hM,hs',rfl⟩:=h'
 have h1:=aNc hL λx hx=>(hs' x).2 ((hs x).1 hx)
 have h2:=aNc hM λx hx=>(hs x).2 ((hs' x).1 hx)
 omega
theorem Cnt.congr {α:Type} {S T:α->Prop} {k:Int} (h:Cnt S k) (he:∀ x,T x↔S x):Cnt T k:=by
 obtain⟨L,hL,hs,hk⟩:=h
 exact⟨L,hL,λx=>(hs x).trans (he x).symm,hk⟩
theorem aJ6 {α β:Type} {f:α->β}:∀ {L:List α},(∀ x∈L,∀ y∈L,f x=f y->x=y)->L.Nodup->(L.map f).Nodup
 | [],_,_=>List.nodup_nil
 | a::L,hf,hn=>by
  rw[List.map_cons,List.nodup_cons]
  refine⟨λh=>?_,aJ6 (λx hx y hy=>hf x (List.mem_cons_of_mem _ hx) y (List.mem_cons_of_mem _ hy)) (List.nodup_cons.1 hn).2⟩
  obtain⟨x,hx,he⟩:=List.mem_map.1 h
  have:=hf x (List.mem_cons_of_mem _ hx) a List.mem_cons_self he
  exact(List.nodup_cons.1 hn).1 (this▸hx)
theorem Cnt.image {α β:Type} {S:α->Prop} {T:β->Prop} {k:Int} (h:Cnt S k) (f:α->β) (hf:∀ x,S x->T (f x)) (hi:∀ x y,S x->S y->f x=f y->x=y) (hs:∀ y,T y->∃ x,S x/\f x=y):Cnt T k:=by
 obtain⟨L,hL,hm,hk⟩:=h
 refine⟨L.map f,aJ6 (λx hx y hy=>hi x y ((hm x).1 hx) ((hm y).1 hy)) hL,λy=>?_,by rw[List.length_map];exact hk⟩
 rw[List.mem_map]
 constructor
 ·rintro⟨x,hx,rfl⟩
  exact hf x ((hm x).1 hx)
 ·intro hy
  obtain⟨x,hx,he⟩:=hs y hy
  exact⟨x,(hm x).2 hx,he⟩
theorem Cnt.or {α:Type} {S T U:α->Prop} {k m:Int} (h:Cnt S k) (h':Cnt T m) (hd:∀ x,S x->¬ T x) (hu:∀ x,U x↔S x∨T x):Cnt U (k+m):=by
 obtain⟨L,hL,hs,rfl⟩:=h
 obtain⟨M,hM,hs',rfl⟩:=h'
 refine⟨L++M,List.nodup_append.2 ⟨hL,hM,λx hx y hy e=>hd x ((hs x).1 hx) (e▸(hs' y).1 hy)⟩,λx=>?_,by simp⟩
 rw[List.mem_append,hs,hs',hu]
def Pk (es:List E) (vs:List Int) (p:Int->Int):Prop:=(∀ w,w∉vs->p w=0)/\(∀ w∈vs,0<=p w)/\∀ S:Int->Bool,(∀ x,S x=true->x∈vs)->(∃ x,S x=true)->∃ w,S w=true/\p w<lap es (ind S) w
theorem bCb {es es':List E} (h:es.Perm es') (s:Int->Int) (w:Int):lap es s w=lap es' s w:=aN2 h _
theorem aUy {e:E} {S:Int->Bool} {w:Int} (hw:S w=true) (h0:e.f0≠w) (h1:e.f1≠w):aK5 (ind S) w e=0:=by
 unfold aK5
 rw[if_neg h0,if_neg h1]
 rfl
theorem bFj {e:E} {es:List E} {vs:List Int} (h0:e.f0∉vs) (h1:e.f1∉vs) (p:Int->Int):Pk (e::es) vs p↔Pk es vs p:=by
 have key:∀ (S:Int->Bool) (w:Int),(∀ x,S x=true->x∈vs)->S w=true->lap (e::es) (ind S) w=lap es (ind S) w:=λS w hS hw=>by
  have hwv:=hS w hw
  rw[aIf,aUy hw (λx=>h0 (x▸hwv)) (λx=>h1 (x▸hwv))]
  omega
 unfold Pk
 constructor
 ·rintro⟨a,b,c⟩
  exact⟨a,b,λS hS hx=>by
   obtain⟨w,hw,hl⟩:=c S hS hx
   exact⟨w,hw,by rw[<-key S w hS hw];exact hl⟩⟩
 ·rintro⟨a,b,c⟩
  exact⟨a,b,λS hS hx=>by
   obtain⟨w,hw,hl⟩:=c S hS hx
   exact⟨w,hw,by rw[key S w hS hw];exact hl⟩⟩
theorem aWc {es:List E} {S:Int->Bool} {w:Int} (hw:S w=true):0<=lap es (ind S) w:=aGz λe _=>by
 unfold aK5 ind
 by_cases a:e.f0=w
 ·rw[if_pos a,a,hw]
  by_cases b:e.f1=w
  ·rw[if_pos b,b,hw];simp
  ·rw[if_neg b];cases S e.f1<;>simp
 ·rw[if_neg a]
  by_cases b:e.f1=w
  ·rw[if_pos b,b,hw];cases S e.f0<;>simp
  ·rw[if_neg b];simp
theorem bJ9 {e:E} {es:List E} {vs:List Int} {u v:Int} (huv:(e.f0=u/\e.f1=v)∨(e.f0=v/\e.f1=u)) (hn:vs.Nodup) (hv:v∈vs) (hu:u∉vs) (p:Int->Int) :
  Pk (e::es) vs p↔(∃ p',Pk es vs p'/\(λw=>p' w+one v 1 w)=p)∨Pk es (vs.erase v) p:=by
 have hne:u≠v:=λx=>hu (x▸hv)
 have atv:∀ S:Int->Bool,(∀ x,S x=true->x∈vs)->S v=true->lap (e::es) (ind S) v=1+lap es (ind S) v:=λS hS hw=>by
  have hSu:S u=false:=by
   cases h:S u with
   | false=>rfl
   | true=>exact absurd (hS u h) hu
  rw[aIf]
  congr 1
  unfold aK5 ind
  rcases huv with ⟨a,b⟩|⟨a,b⟩
  ·rw[a,b,if_neg hne,if_pos rfl,hw,hSu];rfl
  ·rw[a,b,if_pos rfl,if_neg hne,hw,hSu];rfl
 have off:∀ (S:Int->Bool) (w:Int),(∀ x,S x=true->x∈vs)->S w=true->w≠v->lap (e::es) (ind S) w=lap es (ind S) w:=λS w hS hw hwv=>by
  have hwu:w≠u:=λx=>hu (x▸hS w hw)
  rw[aIf,aUy hw (by rcases huv with ⟨a,b⟩|⟨a,b⟩<;>omega) (by rcases huv with ⟨a,b⟩|⟨a,b⟩<;>omega)]
  omega
 constructor
 ·rintro⟨h1,h2,h3⟩
  by_cases hp:p v=0
  ·refine .inr ⟨λw hw=>?_,λw hw=>h2 w (List.mem_of_mem_erase hw),λS hS hx=>?_⟩
   ·by_cases c:w=v
    ·rw[c,hp]
    ·exact h1 w λq=>hw (hn.mem_erase_iff.2 ⟨c,q⟩)
   ·obtain⟨w,hw,hl⟩:=h3 S (λx hx=>List.mem_of_mem_erase (hS x hx)) hx
    have hwv:w≠v:=(hn.mem_erase_iff.1 (hS w hw)).1
    exact⟨w,hw,by rw[<-off S w (λx hx=>List.mem_of_mem_erase (hS x hx)) hw hwv];exact hl⟩
  ·refine .inl ⟨λw=>p w-one v 1 w,⟨λw hw=>?_,λw hw=>?_,λS hS hx=>?_⟩,funext λw=>by show p w-one v 1 w+one v 1 w=p w;omega⟩
   ·have hwv:w≠v:=λx=>hw (x▸hv)
    have:one v 1 w=0:=if_neg hwv
    show p w-one v 1 w=0
    rw[this,h1 w hw]
    rfl
   ·have:=h2 w hw
    show 0<=p w-one v 1 w
    unfold one
    by_cases c:w=v
    ·rw[if_pos c]
     have h0:=h2 v hv
     rw[c]
     omega
    ·rw[if_neg c];omega
   ·obtain⟨w,hw,hl⟩:=h3 S hS hx
    refine⟨w,hw,?_⟩
    show p w-one v 1 w<_
    unfold one
    by_cases c:w=v
    ·rw[if_pos c]
     rw[c]at hl hw ⊢
     rw[atv S hS hw]at hl
     omega
    ·rw[if_neg c]
     rw[off S w hS hw c]at hl
     omega
 ·rintro (⟨p',⟨h1,h2,h3⟩,rfl⟩|⟨h1,h2,h3⟩)
  ·refine⟨λw hw=>?_,λw hw=>?_,λS hS hx=>?_⟩
   ·have hwv:w≠v:=λx=>hw (x▸hv)
    have:one v 1 w=0:=if_neg hwv
    show p' w+one v 1 w=0
    rw[this,h1 w hw]
    rfl
   ·have:=h2 w hw
    show 0<=p' w+one v 1 w
    unfold one
    split<;>omega
   ·obtain⟨w,hw,hl⟩:=h3 S hS hx
    refine⟨w,hw,?_⟩
    show p' w+one v 1 w<_
    unfold one
    by_cases c:w=v
    ·rw[if_pos c]
     rw[c]at hl hw ⊢
     rw[atv S hS hw]
     omega
    ·rw[if_neg c,off S w hS hw c]
     omega
  ·have hpv:p v=0:=h1 v λq=>(hn.mem_erase_iff.1 q).1 rfl
   refine⟨λw hw=>h1 w λq=>hw (List.mem_of_mem_erase q),λw hw=>?_,λS hS hx=>?_⟩
   ·by_cases c:w=v
    ·rw[c,hpv];exact Int.le_refl _
    ·exact h2 w (hn.mem_erase_iff.2 ⟨c,hw⟩)
   ·by_cases c:S v=true
    ·refine⟨v,c,?_⟩
     rw[atv S hS c,hpv]
     have:=aWc (es:=es) c
     omega
    ·obtain⟨w,hw,hl⟩:=h3 S (λx hx=>hn.mem_erase_iff.2 ⟨λq=>c (q▸hx),hS x hx⟩) hx
     exact⟨w,hw,by rw[off S w hS hw λq=>c (q▸hw)];exact hl⟩
theorem bJ8 {es:List E} {vs:List Int} (hv:vs≠[]) (hf:∀ e∈es,e.f0∈vs↔e.f1∈vs) (p:Int->Int):¬ Pk es vs p:=by
 rintro⟨h1,h2,h3⟩
 obtain⟨w,hw,hl⟩:=h3 (λx=>decide (x∈vs)) (λx hx=>by simpa using hx) (by
  cases vs with
  | nil=>exact absurd rfl hv
  | cons v vs=>exact⟨v,by simp⟩)
 have hwv:w∈vs:=by simpa using hw
 have h0:=h2 w hwv
 have:lap es (ind λx=>decide (x∈vs)) w=0:=aIz λe he=>by
  have hfe:=hf e he
  unfold aK5 ind
  by_cases a:e.f0∈vs
  ·have b:=hfe.1 a
   simp[a,b]
  ·have b:e.f1∉vs:=λq=>a (hfe.2 q)
   simp[a,b]
 omega
theorem bFi:bM4 1 λes vs k=>Cnt (Pk es vs) k where
 perm:=fun {es es' vs k} h hk=>hk.congr λp=>by
  unfold Pk
  simp only[bCb h]
 nil:=⟨[λ_=>0],by simp,λp=>by
  rw[List.mem_singleton]
  constructor
  ·rintro rfl
   exact⟨λ_ _=>rfl,λw hw=>by simp at hw,λS hS hx=>by obtain⟨x,hx⟩:=hx;have:=hS x hx;simp at this⟩
  ·rintro⟨h,_⟩
   exact funext λw=>h w (by simp),rfl⟩
 loop:=λe es vs k _ h0 h1 hk=>by rw[Int.one_mul];exact hk.congr λp=>bFj h0 h1 p
 cut:=λe es vs u v k k' huv _ hn hv hu hk hk'=>by
  refine Cnt.or (S:=λp=>∃ p',Pk es vs p'/\(λw=>p' w+one v 1 w)=p) (hk.image (λp' w=>p' w+one v 1 w) (λp hp=>⟨p,hp,rfl⟩) (λx y _ _ he=>funext λw=>by have h:=congrFun he w;have h':x w+one v 1 w=y w+one v 1 w:=h;omega) λy hy=>hy) hk' (λp hp hp'=>?_) (bJ9 huv hn hv hu)
  obtain⟨p',h',rfl⟩:=hp
  have h1:=hp'.1 v λq=>(hn.mem_erase_iff.1 q).1 rfl
  have h2:=h'.2.1 v hv
  have:one v 1 v=1:=if_pos rfl
  dsimp only at h1
  omega
 far:=λes vs _ _ hv hf=>⟨[],List.nodup_nil,λp=>⟨λh=>absurd h (by simp),λh=>absurd h (bJ8 hv hf p)⟩,rfl⟩
theorem bBz {es:List E} {vs:List Int} (hl:∀ x∈es,x.f0≠x.f1) (hn:vs.Nodup):Cnt (Pk es vs) (aIn es vs):=bM4.of aV9 bFi es.length es vs rfl hl hn
theorem aXn {vs:List Int} {A:List E} (h:Span A vs):zt 1 vs A=if A.length<=vs.length then 1 else 0:=by
 rw[aLv h,Int.sub_self]
 by_cases c:A.length<=vs.length
 ·rw[if_pos c,Nat.sub_eq_zero_of_le c]
  rfl
 ·rw[if_neg c]
  exact Int.zero_pow (by omega)
theorem aNk {es:List E} {vs:List Int} (hl:∀ x∈es,x.f0≠x.f1) (hn:vs.Nodup):aIn es vs=bN6 1 es vs:=Rec.unique (bBh 1) aV9 hl hn
def aR9:Nat->List E->List (List Int)
 | _,[]=>[[]]
 | i,_::es=>aR9 (i+1) es++(aR9 (i+1) es).map λs=>(i:Int)::s
theorem aHe:∀ {es:List E} {i:Nat} {s:List Int},s∈aR9 i es↔(∀ x∈s,(i:Int)<=x/\x<((i+es.length:Nat):Int))/\s.Pairwise (·<·)
 | [],i,s=>by
  rw[aR9,List.mem_singleton]
  constructor
  ·rintro rfl
   exact⟨λx hx=>absurd hx List.not_mem_nil,List.Pairwise.nil⟩
  ·rintro⟨h,_⟩
   cases s with
   | nil=>rfl
   | cons a s =>
    have:=h a List.mem_cons_self
    rw[List.length_nil]at this
    omega
 | e::es,i,s=>by
  rw[aR9,List.mem_append,List.mem_map]
  constructor
  ·rintro (h|⟨t,ht,rfl⟩)
   ·obtain⟨h1,h2⟩:=aHe.1 h
    refine⟨λx hx=>?_,h2⟩
    have:=h1 x hx
    rw[List.length_cons]
    omega
   ·obtain⟨h1,h2⟩:=aHe.1 ht
    refine⟨λx hx=>?_,List.pairwise_cons.2 ⟨λy hy=>by have:=h1 y hy;omega,h2⟩⟩
    rw[List.length_cons]
    rcases List.mem_cons.1 hx with rfl|hx
    ·omega
    ·have:=h1 x hx
     omega
  ·rintro⟨h1,h2⟩
   rw[List.length_cons]at h1
   cases s with
   | nil=>exact Or.inl (aHe.2 ⟨λx hx=>absurd hx List.not_mem_nil,List.Pairwise.nil⟩)
   | cons a s =>
    rw[List.pairwise_cons]at h2
    have ha:=h1 a List.mem_cons_self
    have hs:∀ x∈s,((i+1:Nat):Int)<=x/\x<((i+1+es.length:Nat):Int):=λx hx=>by
     have:=h2.1 x hx
     have:=h1 x (List.mem_cons_of_mem _ hx)
     omega
    by_cases c:a=(i:Int)
    ·subst c
     exact Or.inr ⟨s,aHe.2 ⟨hs,h2.2⟩,rfl⟩
    ·refine Or.inl (aHe.2 ⟨λx hx=>?_,List.pairwise_cons.2 h2⟩)
     rcases List.mem_cons.1 hx with rfl|hx
     ·omega
     ·exact hs x hx
theorem aLk:∀ (es:List E) (i:Nat),(aR9 i es).Nodup
 | [],_=>List.nodup_cons.2 ⟨List.not_mem_nil,List.nodup_nil⟩
 | e::es,i=>by
  rw[aR9,List.nodup_append]
  refine⟨aLk es (i+1),aJ6 (λx _ y _ h=>by injection h) (aLk es (i+1)),?_⟩
  intro a ha b hb hab
  subst hab
  obtain⟨t,ht,rfl⟩:=List.mem_map.1 hb
  have:=(aHe.1 ha).1 i List.mem_cons_self
  omega
def aEh (es:List E) (i:Nat) (s:List Int):List E:=s.map λk=>es.getD (k.toNat-i) ⟨0,0⟩
theorem aLa (p:List E->Bool):∀ (es:List E) (i:Nat) (pre:List E),aHn es (λA=>if p (pre++A)=true then 1 else 0)=(((aR9 i es).filter λs=>p (pre++aEh es i s)).length:Int)
 | [],i,pre=>by
  unfold aHn aR9
  show (if p (pre++[])=true then (1:Int) else 0)=_
  by_cases h:p (pre++[])=true
  ·rw[if_pos h,List.filter_cons_of_pos (by exact h)]
   rfl
  ·rw[if_neg h,List.filter_cons_of_neg (by exact h)]
   rfl
 | e::es,i,pre=>by
  unfold aHn aR9
  rw[List.filter_append,List.length_append,List.filter_map,List.length_map]
  show aHn es (λA=>if p (pre++A)=true then (1:Int) else 0)+aHn es (λA=>if p (pre++e::A)=true then (1:Int) else 0)=_
  have e1:aHn es (λA=>if p (pre++A)=true then (1:Int) else 0)=_:=aLa p es (i+1) pre
  have e2:aHn es (λA=>if p (pre++e::A)=true then (1:Int) else 0)=(((aR9 (i+1) es).filter λs=>p (pre++e::aEh es (i+1) s)).length:Int):=by
   have:=aLa p es (i+1) (pre++[e])
   simp only[List.append_assoc,List.singleton_append]at this
   exact this
  rw[e1,e2]
  have c:∀ s∈aR9 (i+1) es,aEh (e::es) i s=aEh es (i+1) s:=λs hs=>by
   unfold aEh
   refine List.map_congr_left λk hk=>?_
   have:=(aHe.1 hs).1 k hk
   rw[show k.toNat-i=(k.toNat-(i+1))+1 by omega]
   rfl
  have f1:(aR9 (i+1) es).filter (λs=>p (pre++aEh (e::es) i s))=(aR9 (i+1) es).filter λs=>p (pre++aEh es (i+1) s):=List.filter_congr λs hs=>by rw[c s hs]
  have f2:(aR9 (i+1) es).filter ((λs=>p (pre++aEh (e::es) i s)) ∘ λs=>(i:Int)::s)=(aR9 (i+1) es).filter λs=>p (pre++e::aEh es (i+1) s):=List.filter_congr λs hs=>by
   show p (pre++aEh (e::es) i ((i:Int)::s))=_
   have:aEh (e::es) i ((i:Int)::s)=e::aEh (e::es) i s:=by
    unfold aEh
    rw[List.map_cons,Int.toNat_natCast,Nat.sub_self]
    rfl
   rw[this,c s hs]
  rw[f1,f2]
  omega
theorem aN6 {n:Nat} (hn:1<=n) {A:List E} (hA:∀ e∈A,EOk (n:Int) e):Span A (vsL n 0)↔Joined (n:Int) A:=by
 constructor
 ·intro h v h0 h1
  by_cases c:v=0
  ·rw[c]
   exact aH6.refl
  ·obtain⟨u,hu,huv⟩:=h v ((aFi (by omega)).2 ⟨⟨h0,h1⟩,c⟩)
   have hr:=aHx.conn hA ⟨h0,h1⟩ huv.symm
   have hu0:u=0:=Classical.byContradiction λhc=>hu ((aFi (by omega)).2 ⟨hr,hc⟩)
   rw[hu0]at huv
   exact huv
 ·intro h v hv
  have:=(aFi (by omega)).1 hv
  exact⟨0,λc=>((aFi (by omega)).1 c).2 rfl,h v this.1.1 this.1.2⟩
theorem aSd {n:Nat} {es:List E} (hg:GOk (n:Int) es):((aI6 (n:Int) es).length:Int)=aIn es (vsL n 0):=by
 have h1:1<=n:=by have:=hg.1.1;omega
 have hes:=hg.1.2.2.2
 have hl:∀ x∈es,x.f0≠x.f1:=λx hx=>by have:=hes x hx;unfold EOk at this;omega
 have hvl:=aK1 (n:=n) (q:=0) (by omega)
 rw[aNk hl (aIw n 0)]
 unfold bN6
 classical
 have e0:aHn es (zt 1 (vsL n 0))=aHn es (λA=>if(decide (Span ([]++A) (vsL n 0)/\([]++A).length<=n-1))=true then 1 else 0):=by
  refine aG3 λA _=>?_
  rw[List.nil_append]
  by_cases c:Span A (vsL n 0)
  ·rw[aXn c,hvl]
   by_cases d:A.length<=n-1
   ·rw[if_pos d,if_pos (zdY ⟨c,d⟩)]
   ·rw[if_neg d,if_neg (by simp[d])]
  ·rw[aJt c,if_neg (by simp[c])]
 rw[e0,aLa (λB=>decide (Span B (vsL n 0)/\B.length<=n-1)) es 0 []]
 have hc1:Cnt (λs=>aOn (n:Int) es s) ((aI6 (n:Int) es).length:Int):=by
  refine⟨aI6 (n:Int) es,?_,λx=>aPz,rfl⟩
  unfold aI6
  refine List.Pairwise.filter _ ?_
  have hinj:∀ {k:Nat},(aGf es.length k).Nodup:=by
   intro k
   induction k with
   | zero=>exact List.nodup_cons.2 ⟨List.not_mem_nil,List.nodup_nil⟩
   | succ k ih =>
    show ((aGf es.length k).flatMap λs=>aMo s es.length).Nodup
    rw[List.Nodup,List.pairwise_flatMap]
    refine⟨λs _=>?_,ih.imp ?_⟩
    ·unfold aMo
     rw[List.pairwise_map]
     refine List.nodup_range.imp λh e=>h ?_
     have:=List.append_cancel_left e
     injection this with this
     omega
    ·intro a b hab x hx y hy e
     obtain⟨j,_,_,rfl⟩:=aMn.1 hx
     obtain⟨j',_,_,rfl⟩:=aMn.1 hy
     exact hab (List.append_inj_left' e rfl)
  exact hinj
 have hc2:Cnt (λs=>aOn (n:Int) es s) (((aR9 0 es).filter λs=>decide (Span ([]++aEh es 0 s) (vsL n 0)/\([]++aEh es 0 s).length<=n-1)).length:Int):=by
  refine⟨_,(aLk es 0).filter _,λs=>?_,rfl⟩
  rw[List.mem_filter,aHe,decide_eq_true_eq,List.nil_append]
  have hed:aEh es 0 s=aEe es s:=rfl
  rw[hed]
  have hlen:(aEe es s).length=s.length:=by unfold aEe;rw[List.length_map]
  constructor
  ·rintro⟨⟨hr,hp⟩,hs,hle⟩
   have hIn:InR es s s.length:=λj hj _=>by have:=hr _ (List.getElem_mem hj);omega
   have hok:=aLl hes hIn
   have:=aUc (n-1) hvl (aIw n 0) hs
   exact⟨hg,by omega,hIn,bIw hp,(aN6 h1 hok).1 hs⟩
  ·intro h
   have hok:=aLl hes h.2.2.1
   refine⟨⟨λx hx=>?_,bIv h.2.2.2.1⟩,(aN6 h1 hok).2 h.2.2.2.2,by have:=h.2.1;omega⟩
   obtain⟨j,hj,rfl⟩:=List.getElem_of_mem hx
   have:=h.2.2.1 j hj hj
   omega
 exact hc1.unique hc2
end Cf
namespace Cf
open Go.RowKit Go.Proofs.YtnbljcgdgblgoaaGreatW.PrintWords P
theorem bJd {n:Nat} {es:List E} {q:Int} {d d':Int->Int} (h:Red n es q d) (he:∀ v:Int,0<=v->v<n->v≠q->d v=d' v):Red n es q d':=by
 refine⟨λv h0 h1 h2=>by rw[<-he v h0 h1 h2];exact h.1 v h0 h1 h2,λS hS hx=>?_⟩
 obtain⟨v,h0,h1,h2,h3⟩:=h.2 S hS hx
 exact⟨v,h0,h1,h2,by rw[<-he v h0 h1 (λe=>by rw[e,hS]at h2;cases h2)];exact h3⟩
theorem aP2 {n:Nat} {es:List E} {q:Int} (g:Gr n es q) {d:Int->Int} (h0:∀ v:Int,0<=v->v<n->v≠q->0<=d v):(aK8 n es d q).length=n↔Red n es q d:=by
 have hb:=aPo (es:=es) (d:=d) g.hq
 constructor
 ·intro h
  exact hb.1.red g.hes g.hq h h0
 ·intro h
  have hlen:=hb.1.len g.hq
  apply Classical.byContradiction
  intro hc
  obtain⟨v,v0,v1,v2,v3⟩:=Red.bPg g.hes g.hq hb.1 h (by omega)
  have:=hb.2 v v0 v1 v2
  omega
section
variable {n:Nat} {es:List E}
theorem bE8 {c:Nat->Nat} {x:List Int} {m:Nat} (h:x∈aHw c m) (v:Int) (h0:0<=v) (h1:v<m):0<=rd x v:=by
 obtain⟨v,rfl⟩:=Int.eq_ofNat_of_zero_le h0
 obtain⟨h2,h3⟩:=aIi h
 have hlt:v<x.length:=by omega
 rw[aEc hlt]
 exact(h3 v hlt).1
theorem aUk {q:Int} {x:List Int} (h:x∈aJ1 n es q):x∈aHw (aMs es q) n:=(List.mem_filter.1 h).1
end
end Cf
namespace Cf
open Go.RowKit Go.Proofs.YtnbljcgdgblgoaaGreatW.PrintWords P
theorem aLw {n q:Nat} (hq:q<n) {A:List E} (hA:∀ e∈A,EOk (n:Int) e):Span A (vsL n q)↔Joined (n:Int) A:=by
 constructor
 ·intro h
  have key:∀ v:Int,0<=v->v<n->aH6 A (q:Int) v:=by
   intro v h0 h1
   by_cases c:v=(q:Int)
   ·rw[c]
    exact aH6.refl
   ·obtain⟨u,hu,huv⟩:=h v ((aFi hq).2 ⟨⟨h0,h1⟩,c⟩)
    have hr:=aHx.conn hA ⟨h0,h1⟩ huv.symm
    have hu0:u=(q:Int):=Classical.byContradiction λhc=>hu ((aFi hq).2 ⟨hr,hc⟩)
    rw[hu0]at huv
    exact huv
  exact λv h0 h1=>(key 0 (by omega) (by omega)).symm.trans (key v h0 h1)
 ·intro h v hv
  have:=(aFi hq).1 hv
  exact⟨(q:Int),λc=>((aFi hq).1 c).2 rfl,(h (q:Int) (by omega) (by omega)).symm.trans (h v this.1.1 this.1.2)⟩
theorem aZm {n:Nat} {es:List E} (hes:∀ e∈es,EOk (n:Int) e) {q:Nat} (hq:q<n):aIn es (vsL n q)=aIn es (vsL n 0):=by
 have hl:∀ x∈es,x.f0≠x.f1:=λx hx=>by have:=hes x hx;unfold EOk at this;omega
 rw[aNk hl (aIw n q),aNk hl (aIw n 0)]
 unfold bN6
 refine aG3 λA hA=>?_
 have hA2:∀ e∈A,EOk (n:Int) e:=λe he=>hes e (hA e he)
 have h1:=aLw hq hA2
 have h2:=aLw (n:=n) (q:=0) (by omega) hA2
 by_cases c:Span A (vsL n q)
 ·rw[aXn c,aXn (h2.2 (h1.1 c)),aK1 hq,aK1 (by omega)]
 ·rw[aJt c,aJt λh=>c (h1.2 (h2.1 h))]
theorem aVd {c:Nat->Nat}:∀ {m:Nat} {x:List Int},x.length=m->(∀ (j:Nat) (h:j<x.length),0<=x[j]/\x[j]<(c j:Int))->x∈aHw c m
 | 0,x,h,_=>by
  rw[List.length_eq_zero_iff.1 h]
  exact List.mem_cons_self
 | m+1,x,h,hb=>by
  have hne:x≠[]:=λe=>by rw[e]at h;simp at h
  rw[aHw,List.mem_flatMap]
  refine⟨x.dropLast,aVd (by rw[List.length_dropLast,h];rfl) λj hj=>?_,?_⟩
  ·rw[List.getElem_dropLast]
   rw[List.length_dropLast]at hj
   exact hb j (by omega)
  ·have h1:=hb m (by omega)
   obtain⟨t,ht⟩:=Int.eq_ofNat_of_zero_le h1.1
   unfold aNh
   refine List.mem_map.2 ⟨t,List.mem_range.2 (by omega),?_⟩
   rw[<-ht,show x[m]=x.getLast hne from by rw[List.getLast_eq_getElem];congr 1;omega]
   exact List.dropLast_concat_getLast hne
section
variable {n:Nat} {es:List E} {q:Nat}
def fnR (n q:Nat) (x:List Int) (w:Int):Int:=if w∈vsL n q then rd x w else 0
theorem aW4 (g:Gr n es (q:Int)):(aJ1 n es (q:Int)).Nodup:=by
 have h:=(aPp (aMs es (q:Int)) n).sublist (List.filter_sublist (p:=pB n es (q:Int)))
 refine List.Pairwise.imp ?_ h
 intro a b hab e
 subst e
 have:=aLg hab
 rw[hab]at this
 cases this
theorem bBw (g:Gr n es (q:Int)) {x:List Int} (h:x∈aJ1 n es (q:Int)):Red n es (q:Int) (rd x) :=
 (aP2 g λv v0 v1 _=>bE8 (aUk h) v v0 v1).1 (zdT (List.mem_filter.1 h).2)
theorem bFb (g:Gr n es (q:Int)) {x:List Int} (hl:x.length=n) (hx:x.getD q 0=0) (h:Red n es (q:Int) (rd x)):x∈aJ1 n es (q:Int):=by
 have hq:=g.hq
 refine List.mem_filter.2 ⟨aVd hl λj hj=>?_,zdY ((aP2 g h.1).2 h)⟩
 by_cases e:(j:Int)=(q:Int)
 ·obtain rfl:j=q:=by omega
  rw[zdG,zdH hj]at hx
  simp only[Option.getD_some]at hx
  rw[hx]
  unfold aMs
  rw[if_pos rfl]
  omega
 ·have h1:=h.lt g.hes (v:=(j:Int)) (by omega) (by omega) e
  rw[aEc hj]at h1
  unfold aMs
  rw[if_neg e]
  omega
theorem bGf (g:Gr n es (q:Int)) {x y:List Int} (hx:x∈aJ1 n es (q:Int)) (hy:y∈aJ1 n es (q:Int)) (h:fnR n q x=fnR n q y):x=y:=by
 have hq:=g.hq
 have lx:=(aFd hx).1
 have ly:=(aFd hy).1
 have qx:=aKo g hx
 have qy:=aKo g hy
 rw[Int.toNat_natCast]at qx qy
 refine List.ext_getElem (by omega) λi h1 h2=>?_
 by_cases e:i=q
 ·subst e
  rw[zdG,zdH h1]at qx
  rw[zdG,zdH h2]at qy
  simp only[Option.getD_some]at qx qy
  omega
 ·have h3:=congrFun h (i:Int)
  have hm:(i:Int)∈vsL n q:=(aFi (by omega)).2 ⟨by omega,by omega⟩
  unfold fnR at h3
  rw[if_pos hm,if_pos hm,aEc h1,aEc h2]at h3
  exact h3
theorem bL9 (g:Gr n es (q:Int)) {x:List Int} (h:x∈aJ1 n es (q:Int)):Pk es (vsL n q) (fnR n q x):=by
 have hq:=g.hq
 have hqn:q<n:=by omega
 have hr:=bBw g h
 refine⟨λw hw=>if_neg hw,λw hw=>?_,λS hS ⟨y,hy⟩=>?_⟩
 ·have hm:=(aFi hqn).1 hw
  unfold fnR
  rw[if_pos hw]
  exact hr.1 w hm.1.1 hm.1.2 hm.2
 ·have hSq:S (q:Int)=false:=by
   cases c:S (q:Int) with
   | false=>rfl
   | true=>exact absurd rfl ((aFi hqn).1 (hS _ c)).2
  have hm:=(aFi hqn).1 (hS y hy)
  obtain⟨v,v0,v1,v2,v3⟩:=hr.2 S hSq ⟨y,hm.1.1,hm.1.2,hy⟩
  refine⟨v,v2,?_⟩
  unfold fnR
  rw[if_pos (hS v v2)]
  exact v3
theorem bJ7 (g:Gr n es (q:Int)) {p:Int->Int} (h:Pk es (vsL n q) p):∃ x∈aJ1 n es (q:Int),fnR n q x=p:=by
 have hq:=g.hq
 have hqn:q<n:=by omega
 have hrep:=aEy n p
 have hlen:(aMa n p).length=n:=aHb n p
 have hrd:∀ v:Int,0<=v->v<n->rd (aMa n p) v=p v:=λv h0 h1=>hrep.2 v h0 h1
 have hpq:p (q:Int)=0:=h.1 _ λc=>((aFi hqn).1 c).2 rfl
 have bK9:Red n es (q:Int) (rd (aMa n p)):=by
  refine⟨λv v0 v1 v2=>by rw[hrd v v0 v1];exact h.2.1 v ((aFi hqn).2 ⟨⟨v0,v1⟩,v2⟩),λS hS ⟨y,y0,y1,y2⟩=>?_⟩
  have hyq:y≠(q:Int):=λe=>by rw[e,hS]at y2;cases y2
  obtain⟨w,hw,hlt⟩:=h.2.2 (λv=>S v&&decide (v∈vsL n q)) (λx hx=>by
   rw[Bool.and_eq_true]at hx
   exact zdT hx.2) ⟨y,by rw[y2,zdY ((aFi hqn).2 ⟨⟨y0,y1⟩,hyq⟩)];rfl⟩
  rw[Bool.and_eq_true]at hw
  have hm:=(aFi hqn).1 (zdT hw.2)
  refine⟨w,hm.1.1,hm.1.2,hw.1,?_⟩
  rw[hrd w hm.1.1 hm.1.2]
  rwa[aKw g.hes (t:=ind S) λv v0 v1=>by
   show (if(S v&&decide (v∈vsL n q))=true then (1:Int) else 0)=if S v=true then 1 else 0
   by_cases e:v=(q:Int)
   ·rw[e,hS,Bool.false_and]
   ·rw[zdY ((aFi hqn).2 ⟨⟨v0,v1⟩,e⟩),Bool.and_true]]at hlt
 refine⟨aMa n p,bFb g hlen (by rw[<-aJv,hrd _ (by omega) (by omega)];exact hpq) bK9,funext λw=>?_⟩
 unfold fnR
 by_cases c:w∈vsL n q
 ·have hm:=(aFi hqn).1 c
  rw[if_pos c,hrd w hm.1.1 hm.1.2]
 ·rw[if_neg c,h.1 w c]
theorem aW5 (g:Gr n es (q:Int)):((aJ1 n es (q:Int)).length:Int)=aIn es (vsL n 0):=by
 have hq:=g.hq
 have hl:∀ x∈es,x.f0≠x.f1:=λx hx=>by have:=g.hes x hx;unfold EOk at this;omega
 have h1:=bBz (es:=es) (vs:=vsL n q) hl (aIw n q)
 rw[aZm g.hes (show q<n by omega)]at h1
 refine Cnt.unique (S:=Pk es (vsL n q)) ?_ h1
 refine⟨(aJ1 n es (q:Int)).map (fnR n q),aJ6 (λx hx y hy h=>bGf g hx hy h) (aW4 g),λp=>⟨λhp=>?_,λhp=>?_⟩,by rw[List.length_map]⟩
 ·obtain⟨x,hx,rfl⟩:=List.mem_map.1 hp
  exact bL9 g hx
 ·obtain⟨x,hx,rfl⟩:=bJ7 g hp
  exact List.mem_map.2 ⟨x,hx,rfl⟩
end
end Cf
namespace Cf
def bGd (es:List E) (c:Int->Int) (v:Int):Int:=val es v-1-c v
def bAd (n:Nat) (es:List E) (q:Int) (c:Int->Int):Prop:=∀ S:Int->Bool,S q=false->(∃ v:Int,0<=v/\v<n/\S v=true)->∃ v:Int,0<=v/\v<n/\S v=true/\bGd es c v<lap es (ind S) v
def del (S:Int->Bool) (v x:Int):Bool:=S x&&decide (x≠v)
def fired (q:Int) (U:Int->Bool) (v:Int):Int:=if v=q then 0 else if U v=true then 0 else 1
theorem aR1 {n:Nat} {es:List E} (hes:∀ e∈es,EOk n e) {q:Int} {U:Int->Bool} (hU:U q=false) {v:Int} (hv:v≠q):lap es (fired q U) v=mult es q v-lap es (ind U) v:=by
 have e:(λx=>fired q U x+(ind U x+one q 1 x))=λ_=>1:=by
  funext x
  unfold fired ind one
  by_cases c:x=q
  ·subst c
   simp[hU]
  ·by_cases c2:U x=true
   ·simp[c,c2]
   ·simp[c,c2]
 have h0:lap es (λx=>fired q U x+(ind U x+one q 1 x)) v=0:=by
  rw[e]
  exact aI4 (c:=1) (λ_ _=>⟨rfl,rfl⟩) v
 rw[aHo,aHo,aLh hes hv]at h0
 omega
def lit (es:List E) (q:Int) (c:Int->Int) (v:Int):Int:=c v+mult es q v
theorem aYv {n:Nat} {es:List E} (hes:∀ e∈es,EOk n e) {q:Int} {c:Int->Int} (h:bAd n es q c):∀ (k:Nat) (U:Int->Bool),U q=false->(∀ v,U v=true->0<=v/\v<n)->(List.range n).countP (λi:Nat=>U (i:Int))=k->aFy n es q (lit es q c) (λv=>if 0<=v/\v<(n:Int) then fired q U v else 0)->aFy n es q (lit es q c) (λv=>if 0<=v/\v<(n:Int) then fired q (λ_=>false) v else 0):=by
 intro k
 induction k with
 | zero =>
  intro U hq hr hc hl
  have hU:U=λ_=>false:=by
   funext v
   cases hb:U v with
   | false=>rfl
   | true =>
    have hv:=hr v hb
    have:=(List.countP_eq_zero.1 hc) v.toNat (List.mem_range.2 (by omega))
    have e:((v.toNat:Nat):Int)=v:=by omega
    rw[e,hb]at this
    exact absurd rfl this
  rw[hU]at hl
  exact hl
 | succ k ih =>
  intro U hq hr hc hl
  have hex:∃ v:Int,0<=v/\v<n/\U v=true:=by
   have hp:0<(List.range n).countP (λi:Nat=>U (i:Int)):=by omega
   obtain⟨i,hi,hu⟩:=List.countP_pos_iff.1 hp
   exact⟨i,by omega,by have:=List.mem_range.1 hi;omega,hu⟩
  obtain⟨u,h0,h1,h2,h3⟩:=h U hq hex
  have huq:u≠q:=by
   rintro rfl
   rw[hq]at h2
   cases h2
  have hstep:=hl.step h0 h1 huq (by
   have e:lap es (λv=>if 0<=v/\v<(n:Int) then fired q U v else 0) u=lap es (fired q U) u:=aKw hes (λw w0 w1=>by rw[if_pos ⟨w0,w1⟩]) u
   rw[e,aR1 hes hq huq]
   unfold lit bGd at *
   omega)
  refine ih (del U u) (by simp[del,hq]) (λv hv=>hr v (by simp[del]at hv;exact hv.1)) ?_ ?_
  ·have hlt:(List.range n).countP (λi:Nat=>U (i:Int))=(List.range n).countP (λi:Nat=>del U u (i:Int))+1:=by
    have key:∀ m:Nat,(List.range m).countP (λi:Nat=>U (i:Int))=(List.range m).countP (λi:Nat=>del U u (i:Int))+if u<m then 1 else 0:=by
     intro m
     induction m with
     | zero=>simp;omega
     | succ m ihm =>
      rw[List.range_succ,List.countP_append,List.countP_append,ihm,List.countP_cons,List.countP_cons,List.countP_nil,List.countP_nil]
      by_cases c:(m:Int)=u
      ·subst c
       simp[del,h2]
       omega
      ·have hd:del U u (m:Int)=U (m:Int):=by simp[del,c]
       rw[hd]
       have h9:(u<((m+1:Nat):Int))↔(u<(m:Int)):=by omega
       simp only[h9]
       omega
    have:=key n
    rw[if_pos h1]at this
    exact this
   omega
  ·have e:(λv=>if 0<=v/\v<(n:Int) then fired q (del U u) v else 0)=λw=>(λv=>if 0<=v/\v<(n:Int) then fired q U v else 0) w+one u 1 w:=by
    funext w
    unfold fired del one
    by_cases c:w=u
    ·subst c
     simp[h0,h1,huq,h2]
    ·simp[c]
   rw[e]
   exact hstep
theorem bC5 {n:Nat} {es:List E} (hes:∀ e∈es,EOk n e) {q:Int} {c:Int->Int} (h:bAd n es q c) :
  aFy n es q (lit es q c) (λv=>if 0<=v/\v<(n:Int) then fired q (λ_=>false) v else 0)/\∀ v:Int,v≠q->lit es q c v-lap es (λv=>if 0<=v/\v<(n:Int) then fired q (λ_=>false) v else 0) v=c v:=by
 constructor
 ·refine aYv hes h _ (λv=>decide (0<=v/\v<(n:Int)/\v≠q)) (by simp) (λv hv=>?_) rfl ?_
  ·have:0<=v/\v<(n:Int)/\v≠q:=by simpa using hv
   exact⟨this.1,this.2.1⟩
  ·have e:(λv=>if 0<=v/\v<(n:Int) then fired q (λv=>decide (0<=v/\v<(n:Int)/\v≠q)) v else 0)=λ_=>0:=by
    funext v
    unfold fired
    by_cases c:0<=v/\v<(n:Int)
    ·by_cases c2:v=q
     ·simp[c2]
     ·simp[c,c2]
    ·simp[c]
   rw[e]
   exact .zero
 ·intro v hv
  have e:lap es (λv=>if 0<=v/\v<(n:Int) then fired q (λ_=>false) v else 0) v=lap es (fired q (λ_=>false)) v:=aKw hes (λw w0 w1=>by rw[if_pos ⟨w0,w1⟩]) v
  rw[e,aR1 hes rfl hv]
  have hz:lap es (ind (λ_=>false)) v=0:=aI4 (c:=0) (λ_ _=>⟨by simp[ind],by simp[ind]⟩) v
  unfold lit
  omega
end Cf
namespace Cf
open Go.RowKit Go.Proofs.YtnbljcgdgblgoaaGreatW.PrintWords
structure bHc (n:Nat) (es:List E) (q:Int) (c:List Int):Prop where
 len:c.length=n
 bA0:rd c q=0
 bJf:bAd n es q (rd c)
 stable:Stable n es q (rd c)
 aKs:∀ v:Int,0<=v->v<n->v≠q->0<=rd c v
def Off (n:Nat) (es:List E) (q:Int) (p c:List Int):Prop:=∃ t:Int->Int,∀ v:Int,0<=v->v<n->v≠q->rd c v=rd p v-lap es t v
theorem Off.symm {n:Nat} {es:List E} {q:Int} {p c:List Int} (h:Off n es q p c):Off n es q c p:=by
 obtain⟨t,ht⟩:=h
 refine⟨λv=>- t v,λv h0 h1 h2=>?_⟩
 rw[aYz]
 have:=ht v h0 h1 h2
 omega
theorem Off.trans {n:Nat} {es:List E} {q:Int} {p c d:List Int} (h:Off n es q p c) (k:Off n es q c d):Off n es q p d:=by
 obtain⟨t,ht⟩:=h
 obtain⟨u,hu⟩:=k
 refine⟨λv=>t v+u v,λv h0 h1 h2=>?_⟩
 rw[aHo]
 have:=ht v h0 h1 h2
 have:=hu v h0 h1 h2
 omega
theorem aUm {n:Nat} {a b:List Int} (ha:a.length=n) {v:Int} (h0:0<=v) (h1:v<n):rd (aP6 a b) v=rd a v+rd b v:=by
 unfold aP6
 exact(aEy a.length _).2 v h0 (by omega)
theorem Off.add {n:Nat} {es:List E} {q:Int} {a b a' b':List Int} (ha:a.length=n) (ha':a'.length=n) (h:Off n es q a a') (k:Off n es q b b'):Off n es q (aP6 a b) (aP6 a' b'):=by
 obtain⟨t,ht⟩:=h
 obtain⟨u,hu⟩:=k
 refine⟨λv=>t v+u v,λv h0 h1 h2=>?_⟩
 rw[aHo,aUm ha h0 h1,aUm ha' h0 h1]
 have:=ht v h0 h1 h2
 have:=hu v h0 h1 h2
 omega
theorem Off.of {n:Nat} {es:List E} {q:Int} {p c:List Int} (h:∀ v:Int,0<=v->v<n->rd c v=rd p v):Off n es q p c :=
 ⟨λ_=>0,λv h0 h1 _=>by rw[h v h0 h1,aI4 (c:=0) (λ_ _=>⟨rfl,rfl⟩)];omega⟩
theorem aSo {n:Nat} {es:List E} {q:Int} (g:Gr n es q) (hg:GOk (n:Int) es) {v:Int} (h0:0<=v) (h1:v<n) (hv:v≠q):rd (aEg (n:Int) es q) v=val es v-1:=by
 have e:aEg (n:Int) es q=aIp n es q:=by
  unfold aEg
  rw[if_pos ⟨aE8.2 hg,g.hq⟩]
 obtain⟨i,rfl⟩:=Int.eq_ofNat_of_zero_le h0
 rw[e,aEc (by simp[aIp];omega)]
 simp only[aIp,List.getElem_map,List.getElem_range]
 unfold aJy
 rw[if_neg hv,aHm ⟨h0,h1⟩]
theorem bHc.bd {n:Nat} {es:List E} {q:Int} (g:Gr n es q) {c:List Int} (h:bHc n es q c):Bd c 12:=λv h0 h1=>by
 have hl:=h.len
 by_cases e:v=q
 ·rw[e,h.bA0];omega
 ·have h1:=h.aKs v h0 (by omega) e
  have h2:=h.stable v h0 (by omega) e
  have:=aPy es v
  have:=g.hel
  omega
theorem bFm {n:Nat} {es:List E} {q:Int} (g:Gr n es q) (hg:GOk (n:Int) es) {c:List Int} (hl:c.length=n) (hq:rd c q=0) (hnn:∀ v:Int,0<=v->v<n->v≠q->0<=rd c v) (hb:Bd c 60):pOk n es c q=true:=by
 rw[aP7]
 have hx:∀ x∈c,0<=x/\x<=60:=by
  intro x hx
  obtain⟨i,hi,rfl⟩:=List.getElem_of_mem hx
  have h2:=hb i (by omega) (by omega)
  rw[aEc hi]at h2
  refine⟨?_,h2.2⟩
  by_cases e:(i:Int)=q
  ·rw[<-e,aEc hi]at hq
   omega
  ·have:=hnn i (by omega) (by omega) e
   rw[aEc hi]at this
   exact this
 exact⟨⟨hg,by omega,λx h=>by have:=hx x h;omega⟩,g.hq,λx h=>(hx x h).1,hq⟩
theorem aSc {n:Nat} {es:List E} {q:Int} {p:List Int} (hp:p.length=n) (hs:Stable n es q (rd p)):aMg n es q p p.length 0<0:=by
 rcases aOy n es q p p.length 0 with ⟨h1,_⟩|⟨h1,h2,h3,h4⟩
 ·omega
 ·have:=hs (aMg n es q p p.length 0) (by omega) (by omega) h3
  rw[aHm ⟨by omega,by omega⟩]at h4
  omega
theorem bHc.sOk {n:Nat} {es:List E} {q:Int} (g:Gr n es q) (hg:GOk (n:Int) es) {c:List Int} (h:bHc n es q c):sOk n es c q=true:=by
 unfold Cf.sOk
 rw[bFm g hg h.len h.bA0 h.aKs ((h.bd g).mono (by omega)),Bool.true_and,decide_eq_true_eq]
 exact aSc h.len h.stable
theorem aNb (q:Int) (c:List Int):∀ (d i:Nat),(∀ j:Nat,i<=j->j<i+d->(j:Int)≠q->rd c (j:Int)=1)->aQs q c d i=true
 | 0,_,_=>rfl
 | d+1,i,h=>by
  unfold aQs
  by_cases e:(i:Int)=q
  ·rw[if_pos e]
   exact aNb q c d (i+1) λj h1 h2 h3=>h j (by omega) (by omega) h3
  ·rw[if_neg e,if_pos (h i (by omega) (by omega) e)]
   exact aNb q c d (i+1) λj h1 h2 h3=>h j (by omega) (by omega) h3
theorem bHc.aYh {n:Nat} {es:List E} {q:Int} (g:Gr n es q) (hg:GOk (n:Int) es) {c:List Int} (h:bHc n es q c):aYh n es c q=true:=by
 have hlo:=bC5 g.hes h.bJf
 have bOt:Rep n (aS1 n es q c) (lit es q (rd c)):=aEy n _
 have hset:aIj n es q (aS1 n es q c) (c,aMa n λv=>if 0<=v/\v<(n:Int) then fired q (λ_=>false) v else 0):=by
  have hsub:∀ {s:Int->Int},aFy n es q (lit es q (rd c)) s->aFy n es q (rd (aS1 n es q c)) s:=by
   intro s hs
   induction hs with
   | zero=>exact .zero
   | step _ h0 h1 h2 h3 ih=>exact ih.step h0 h1 h2 (by rw[bOt.2 _ h0 h1];exact h3)
  refine⟨_,hsub hlo.1,λv v0 v1 v2=>?_,(Rep.self h.len).congr λv v0 v1=>?_,(show Rep n (aMa n λv=>if 0<=v/\v<(n:Int) then fired q (λ_=>false) v else 0) _ from aEy n _)⟩
  ·have:=hlo.2 v v2
   show rd (aS1 n es q c) v-_<val es v
   rw[bOt.2 v v0 v1,this]
   exact h.stable v v0 v1 v2
  ·by_cases e:v=q
   ·rw[if_pos e,e,h.bA0]
   ·have:=hlo.2 v e
    rw[if_neg e,bOt.2 v v0 v1,this]
 have heq:=hset.eq
 unfold Cf.aYh
 rw[h.sOk g hg,Bool.true_and]
 unfold isR
 show (if aQs q (aGe n es q (aS1 n es q c)).2 (aGe n es q (aS1 n es q c)).2.length 0=true then decide ((aGe n es q (aS1 n es q c)).1=c) else false)=true
 rw[<-heq]
 simp only
 rw[if_pos]
 ·simp
 ·refine aNb q _ _ 0 λj _ h1 h2=>?_
  rw[aHb]at h1
  rw[(aEy n _).2 j (by omega) (by omega),if_pos ⟨by omega,by omega⟩]
  unfold fired
  rw[if_neg h2]
  simp
end Cf
namespace Cf
open Go.RowKit Go.Proofs.YtnbljcgdgblgoaaGreatW.PrintWords P
def bOk (n:Int) (es:List E) (d:List Int) (q:Int):Bool:=dOk n es d&&decide (0<=q/\q<n)
def bfO (n:Int) (es:List E) (d:List Int) (q:Int):List Int×Bool:=if bOk n es d q=true then(aK8 n.toNat es (rd d) q,true) else([],false)
theorem aTn {n:Int} {es:List E} {d:List Int} {q:Int} (h:bOk n es d q=true):∃ m:Nat,n=m/\Gr m es q/\GOk (m:Int) es/\d.length=m/\Bd d 60:=by
 unfold bOk at h
 rw[Bool.and_eq_true,decide_eq_true_eq]at h
 have hg:=(aLm.1 h.1).1
 obtain⟨m,rfl,g,_,_,hl,hb,_⟩:=bGo h.1
 exact⟨m,rfl,g q h.2.1 h.2.2,hg,hl,hb⟩
theorem bH1 {m:Nat} {es:List E} {d:List Int} {q:Int} (h:bOk m es d q=true):bfO m es d q=(aK8 m es (rd d) q,true):=by
 unfold bfO
 rw[if_pos h]
 rfl
theorem bH2 {n:Int} {es:List E} {d:List Int} {q:Int}:(bfO n es d q).2=bOk n es d q:=by
 unfold bfO
 cases bOk n es d q<;>rfl
theorem bK2 (n:Int) (es:List E) (d:List Int) (q:Int) (hn:Wf .i64 n) (hl:d.length<=1048576):Ep (λk=>aDi.f k n es d q) (·=bfO n es d q):=by
 simp only[aDi.f,bfO]
 refine Ep.bind (aZ7 n es d hl) ?_
 rintro _ rfl
 refine Ep.ite (λh=>?_) (λh=>Ep.now ?_)
 ·refine Ep.aEr (aH2 n es q hn) ?_
  have hgo:=aE8.2 (aLm.1 h).1
  have e:(gOk n es&&decide (0<=q/\q<n))=bOk n es d q:=by unfold bOk;rw[hgo,h]
  rw[e]
  refine Ep.ite (λh2=>?_) (λh2=>Ep.now (by rw[if_neg h2]))
  obtain⟨m,rfl,g,_,hdl,_⟩:=aTn h2
  refine Ep.bind (aV5 g d hdl) ?_
  rintro _ rfl
  exact Ep.now (by rw[if_pos h2];rfl)
 ·have:bOk n es d q=false:=by
   unfold bOk
   have:dOk n es d=false:=by simpa using h
   rw[this]
   rfl
  rw[this]
  rfl
def bI2 (n:Int) (es:List E) (d:List Int) (q:Int):Bool:=if bOk n es d q=true then(if aIs q d d.length 0<0 then((bfO n es d q).1.length:Int)==n else false) else false
theorem bCh (n:Int) (es:List E) (d:List Int) (q:Int) (hn:Wf .i64 n) (hl:d.length<=1048576):Ep (λk=>aDe.f k n es d q) (·=bI2 n es d q):=by
 simp only[aDe.f,bI2]
 refine Ep.bind (bK2 n es d q hn hl) ?_
 rintro _ rfl
 rw[bH2]
 refine Ep.ite (λh=>?_) (λh=>Ep.now (by rw[if_neg h]))
 rw[if_pos h]
 refine Ep.bind (bCk d q hl) ?_
 rintro _ rfl
 refine Ep.ite (λh2=>Ep.now ?_) (λh2=>Ep.now ?_)
 ·rw[if_pos h2]
 ·rw[if_neg h2]
theorem aUl {n:Int} {es:List E} {d:List Int} {q:Int} (h:bI2 n es d q=true):bOk n es d q=true:=by
 apply Classical.byContradiction
 intro hc
 unfold bI2 at h
 rw[if_neg hc]at h
 cases h
def aSs (n:Int) (es:List E) (d:List Int) (q:Int):Bool:=if bI2 n es d q=true then rd d q == -1 else false
theorem aV2 (n:Int) (es:List E) (d:List Int) (q:Int) (hn:Wf .i64 n) (hl:d.length<=1048576):Ep (λk=>aCr.f k n es d q) (·=aSs n es d q):=by
 simp only[aCr.f,aSs]
 refine Ep.bind (bCh n es d q hn hl) ?_
 rintro _ rfl
 refine Ep.ite (λh=>?_) (λh=>Ep.now (by rw[if_neg h]))
 obtain⟨m,rfl,g,_,hdl,_⟩:=aTn (aUl h)
 have:=g.hq
 exact Ep.pos (by omega) (Ep.pos (by omega) (Ep.now (by rw[if_pos h])))
theorem aYn {n:Int} {es:List E} {d:List Int} {q:Int} (h:aSs n es d q=true):bOk n es d q=true:=by
 apply Classical.byContradiction
 intro hc
 unfold aSs at h
 split at h
 ·rename_i h2
  exact hc (aUl h2)
 ·cases h
def bNg (n:Int) (es:List E) (d:List Int) (q:Int):List Int×Bool:=if aSs n es d q=true then((minL (aEg n es q) d).set q.toNat 0,true) else([],false)
theorem bFz (n:Int) (es:List E) (d:List Int) (q:Int) (hn:Wf .i64 n) (hl:d.length<=1048576):Ep (λk=>aCv.f k n es d q) (·=bNg n es d q):=by
 simp only[aCv.f,bNg]
 refine Ep.bind (aV2 n es d q hn hl) ?_
 rintro _ rfl
 refine Ep.ite (λh=>?_) (λh=>Ep.now (by rw[if_neg h]))
 obtain⟨m,rfl,g,hg,hdl,hb⟩:=aTn (aYn h)
 have hf:=aGs g hg
 have hq:=g.hq
 have h6:=g.n6
 refine Ep.bind (aPf m es q hn) ?_
 rintro _ rfl
 refine Ep.bind (aT4 d hl (hb.mono (by omega))) ?_
 rintro _ rfl
 refine Ep.bind (aPe _ _ (by omega) (by rw[aPa];omega) (hf.2.mono (by omega)) ((aSw hb).mono (by omega))) ?_
 rintro _ rfl
 rw[aP5 (by omega)]
 have:=aKu (aEg (m:Int) es q) d
 exact Ep.pos (by omega) (Ep.pos (by omega) (Ep.now (by rw[if_pos h])))
noncomputable def bNh (n:Int) (es:List E) (p:List Int) (q:Int):List Int×Bool:=if aYh n es p q=true then((minL (aEg n es q) p).set q.toNat (-1),true) else([],false)
theorem bG0 (n:Int) (es:List E) (p:List Int) (q:Int) (hn:Wf .i64 n) (hel:es.length<=1048576) (hl:p.length<=1048576):Ep (λk=>aCw.f k n es p q) (·=bNh n es p q):=by
 simp only[aCw.f,bNh]
 refine Ep.bind (aR6 n es p q hel hl) ?_
 rintro _ rfl
 refine Ep.ite (λh=>?_) (λh=>Ep.now (by rw[if_neg h]))
 have hg:=(aP7.1 (aP3 h)).1.1
 obtain⟨m,rfl,g,hp,hb,_⟩:=aSt (aP3 h)
 have hf:=aGs g hg
 have hq:=g.hq
 have h6:=g.n6
 have hpl:=hp.len
 refine Ep.bind (aPf m es q hn) ?_
 rintro _ rfl
 refine Ep.bind (aT4 p hl (hb.mono (by omega))) ?_
 rintro _ rfl
 refine Ep.bind (aPe _ _ (by omega) (by rw[aPa];omega) (hf.2.mono (by omega)) ((aSw hb).mono (by omega))) ?_
 rintro _ rfl
 rw[aP5 (by omega)]
 have:=aKu (aEg (m:Int) es q) p
 exact Ep.pos (by omega) (Ep.pos (by omega) (Ep.now (by rw[if_pos h])))
end Cf
namespace Cf
open Go.Proofs.YtnbljcgdgblgoaaGreatW.PrintWords
def Mul (n:Nat) (es:List E) (a:List Int) (k:Int) (x:List Int):Prop :=
 x.length=n/\Red n es 0 (rd x)/\∃ s:Int->Int,∀ v:Int,0<=v->v<n->rd x v=k*rd a v-lap es s v
theorem Mul.zero {n:Nat} {es:List E} {a:List Int} (hz:Red n es 0 (rd (List.replicate n 0))):Mul n es a 0 (List.replicate n 0) :=
 ⟨by simp,hz,λ_=>0,λv _ _=>by rw[aM1,aI4 (c:=0) (λ_ _=>⟨rfl,rfl⟩)];omega⟩
theorem Mul.one {n:Nat} {es:List E} {a:List Int} {r:List Int×List Int} (h:aTq n es 0 a r):Mul n es a 1 r.1 :=
 ⟨h.1,h.2.2.1,rd r.2,λv v0 v1=>by rw[h.2.2.2.2 v v0 v1];omega⟩
theorem Mul.add {n:Nat} {es:List E} {a c:List Int} {j k:Int} {x y:List Int} (hx:Mul n es a j x) (hy:Mul n es a k y) (hc:∀ v:Int,0<=v->v<n->rd c v=rd x v+rd y v) {r:List Int×List Int} (h:aTq n es 0 c r):Mul n es a (j+k) r.1:=by
 obtain⟨_,_,s,hs⟩:=hx
 obtain⟨_,_,t,ht⟩:=hy
 refine⟨h.1,h.2.2.1,λv=>s v+t v+rd r.2 v,λv v0 v1=>?_⟩
 rw[h.2.2.2.2 v v0 v1,hc v v0 v1,hs v v0 v1,ht v v0 v1,aHo,aHo,Int.add_mul]
 omega
def code:List Int->Int
 | []=>0
 | a::r=>(a+72)+100*code r
end Cf
namespace Cf
open Go.RowKit Go.Proofs.YtnbljcgdgblgoaaGreatW.PrintWords P
def inE (b:List Int) (e:E):Int:=if e.f0∈b/\e.f1∈b then 1 else 0
theorem bFw {n:Int} {e:E} (he:EOk n e) {b:List Int} {v:Int} (hv:v∉b):inE (b++[v]) e=inE b e+aK5 (ind λx=>decide (x∉b)) v e:=by
 have hne:e.f0≠e.f1:=by unfold EOk at he;omega
 unfold inE aK5 ind
 simp only[List.mem_append,List.mem_singleton]
 by_cases a:e.f0=v
 ·have b1:e.f1≠v:=λh=>hne (a.trans h.symm)
  rw[a]
  by_cases c:e.f1∈b<;>simp[hv,c,b1]
 ·by_cases b1:e.f1=v
  ·rw[b1]
   by_cases c:e.f0∈b<;>simp[hv,c,a]
  ·simp[a,b1]
theorem bD3 {n:Nat} {es:List E} (hes:∀ e∈es,EOk n e) {d:Int->Int} {q:Int} (hq:0<=q/\q<n) {b:List Int} (h:aPx n es d q b):(b.map λv=>if v=q then 0 else d v+1).sum<=aHz es (inE b):=by
 induction h with
 | start =>
  have:0<=aHz es (inE [q]):=aGz λe _=>by unfold inE;split<;>omega
  simpa using this
 | @step b v hb h0 h1 hv hlt ih =>
  have hok:=hb.ok hq
  rw[aK7 hes hok.1 hv]at hlt
  have e:aHz es (inE (b++[v]))=aHz es (inE b)+lap es (ind λx=>decide (x∉b)) v:=by
   unfold lap
   rw[<-aUa]
   exact aGw λe he=>bFw (hes e he) hv
  have hvq:v≠q:=λh=>hv (h▸hok.2.2)
  rw[e,List.map_append,List.sum_append]
  simp only[List.map_cons,List.map_nil,List.sum_cons,List.sum_nil]
  rw[if_neg hvq]
  omega
theorem bD2 {n:Nat} {es:List E} {d:Int->Int} {q:Int} (hq:0<=q/\q<n) {b:List Int} (h:aPx n es d q b) (hl:b.length=n) {v:Int} (h0:0<=v) (h1:v<n):v∈b:=by
 apply Classical.byContradiction
 intro hn
 have:=aFx n (v::b) (List.nodup_cons.2 ⟨hn,(h.ok hq).1⟩) (λx hx=>by
  rcases List.mem_cons.1 hx with rfl|hx
  ·exact⟨h0,h1⟩
  ·exact(h.ok hq).2.1 x hx)
 simp at this
 omega
section
variable {n:Nat} {es:List E} {q:Int}
theorem aMh (hq:0<=q/\q<n) (c:Int):aG4 n (λi=>if(i:Int)=q then c else 0)=c:=by
 obtain⟨k,rfl⟩:=Int.eq_ofNat_of_zero_le hq.1
 refine Eq.trans (aDg λi _=>?_) (aI7 (n:=n) k (by omega) c)
 by_cases e:i=k
 ·rw[if_pos e,if_pos (by omega)]
 ·rw[if_neg e,if_neg (by omega)]
theorem aYe (g:Gr n es q) {x:List Int} (h:x∈aJ1 n es q):0<=x.sum/\x.sum<=(es.length:Int)-n+1:=by
 have hq:=g.hq
 obtain⟨h1,h2⟩:=aFd h
 have hb:=zdT (List.mem_filter.1 h).2
 have hB:=(aPo (es:=es) (d:=rd x) g.hq).1
 have hs:=aQ4 n x h1
 have hx:∀ i:Nat,i<n->0<=rd x (i:Int):=λi hi=>by
  rw[aEc (show i<x.length by omega)]
  exact(h2 i (by omega)).1
 have hxq:rd x q=0:=by
  have h3:=aKo g h
  rw[<-aJv,Int.toNat_of_nonneg (by omega)]at h3
  exact h3
 refine⟨by rw[hs];exact aSe hx,?_⟩
 have h3:=bD3 g.hes g.hq hB
 have h4:=aOz (es:=es) (f:=inE (aK8 n es (rd x) q)) λe _=>by unfold inE;split<;>omega
 have h5:=aU4 (λv=>if v=q then 0 else rd x v+1) n (aK8 n es (rd x) q) (hB.ok g.hq).1 (hB.ok g.hq).2.1
 have h6:aG4 n (λw=>if(w:Int)∈aK8 n es (rd x) q then(λv=>if v=q then 0 else rd x v+1) (w:Int) else 0)=aG4 n (λi=>rd x (i:Int)+((λ_=>(1:Int)) i+(if(i:Int)=q then -1 else 0))):=aDg λi hi=>by
  rw[if_pos (bD2 g.hq hB hb (by omega) (by omega))]
  show (if(i:Int)=q then 0 else rd x (i:Int)+1)=rd x (i:Int)+(1+if(i:Int)=q then -1 else 0)
  by_cases e:(i:Int)=q
  ·rw[if_pos e,if_pos e,e,hxq]
   rfl
  ·rw[if_neg e,if_neg e]
   omega
 rw[h6,aFc,aFc,aJi,aMh g.hq]at h5
 rw[<-h5,<-hs]at h3
 omega
theorem bBi (e:E) (es:List E) (v:Int):val (e::es) v=aJp v e+val es v:=aDb e es (aJp v)
theorem aXo:∀ {es:List E},(∀ e∈es,EOk n e)->aG4 n (λi=>val es (i:Int))=2*(es.length:Int)
 | [],_=>by
  show aG4 n (λi=>val [] (i:Int))=0
  exact(aDg (g:=λ_=>(0:Int)) λi _=>rfl).trans (aFo n)
 | e::es,h=>by
  have he:=h e List.mem_cons_self
  unfold EOk at he
  have ih:=aXo λx hx=>h x (List.mem_cons_of_mem _ hx)
  have e1:aG4 n (λi=>val (e::es) (i:Int))=aG4 n (λi=>((if(i:Int)=e.f0 then 1 else 0)+(if(i:Int)=e.f1 then 1 else 0))+val es (i:Int)):=aDg λi _=>by
   rw[bBi]
   unfold aJp
   by_cases a:(i:Int)=e.f0
   ·rw[if_pos (Or.inl a.symm),if_pos a,if_neg (by omega)]
    rfl
   ·by_cases b:(i:Int)=e.f1
    ·rw[if_pos (Or.inr b.symm),if_neg a,if_pos b]
     rfl
    ·rw[if_neg (λc=>by rcases c with c|c;exact a c.symm;exact b c.symm),if_neg a,if_neg b]
     rfl
  rw[e1,aFc,aFc,aMh (q:=e.f0) (by omega),aMh (q:=e.f1) (by omega),ih,List.length_cons]
  omega
def bJs (es:List E) (q:Int) (p:List Int):Int:=p.sum+val es q-(es.length:Int)
theorem bBx (g:Gr n es q) (hg:GOk (n:Int) es) {i:Nat} (hi:i<n):rd (aEg (n:Int) es q) (i:Int)=if(i:Int)=q then 0 else val es (i:Int)-1:=by
 have hq:=g.hq
 have e:aEg (n:Int) es q=aIp n es q:=by
  unfold aEg
  rw[if_pos ⟨aE8.2 hg,by omega,by omega⟩]
 rw[e,aJv]
 unfold aIp
 rw[zdG,List.getElem?_map,Int.toNat_natCast,List.getElem?_range hi]
 show aJy (n:Int) es q i=_
 unfold aJy
 rw[aHm ⟨by omega,by omega⟩]
theorem bFd (g:Gr n es q) (hg:GOk (n:Int) es) {x:List Int} (h:x∈aJ1 n es q):bJs es q (rcR n es q x)=(es.length:Int)-n+1-x.sum/\Bd (rcR n es q x) 24/\(rcR n es q x).length=n:=by
 have hq:=g.hq
 have hl:=(aFd h).1
 have hf:=aGs g hg
 have hlen:(minL (aEg (n:Int) es q) x).length=n:=by rw[aKu];exact hf.1
 have hs:=aQ4 n _ hlen
 have hxs:=aQ4 n x hl
 have hxq:rd x q=0:=by
  have h3:=aKo g h
  rw[<-aJv,Int.toNat_of_nonneg (by omega)]at h3
  exact h3
 have h6:aG4 n (λi=>rd (minL (aEg (n:Int) es q) x) (i:Int))=aG4 n (λi=>((val es (i:Int)+(-rd x (i:Int)))+(-1:Int))+(if(i:Int)=q then 1-val es q else 0)):=aDg λi hi=>by
  have h7:rd (minL (aEg (n:Int) es q) x) (i:Int)=rd (aEg (n:Int) es q) (i:Int)-rd x (i:Int):=(aEy (aEg (n:Int) es q).length _).2 _ (by omega) (by omega)
  rw[h7,bBx g hg hi]
  by_cases e:(i:Int)=q
  ·rw[if_pos e,if_pos e,e,hxq]
   omega
  ·rw[if_neg e,if_neg e]
   omega
 have h8:aG4 n (λi=>-rd x (i:Int))=- x.sum:=by
  have h9:=aFc n (λi=>-rd x (i:Int)) (λi=>rd x (i:Int))
  rw[aDg (g:=λ_=>0) λi _=>by omega,aFo,<-hxs]at h9
  omega
 rw[h6,aFc,aFc,aFc,aJi,aMh g.hq,aXo g.hes,h8]at hs
 rw[<-aYj g hg h]
 refine⟨?_,(bFr (by omega) hf.2 (aYf g h)).mono (by omega),hlen⟩
 unfold bJs
 omega
theorem bC8 (g:Gr n es q) {p:List Int} (hl:p.length=n) (hb:Bd p 24):wrap64 (wrap64 (p.sum+aOw (n:Int) es q)-(es.length:Int))=bJs es q p:=by
 have h1:=bJ2 g.n6 hl (by omega) hb
 have h2:=aPy es q
 have h3:=aHy es q
 have h4:=g.hel
 rw[aHm g.hq,aCk (x:=p.sum+val es q) (by omega) (by omega),aCk (by omega) (by omega)]
 rfl
theorem bG2 (hg:GOk (n:Int) es):aFq.f (n:Int) es=some ((es.length:Int)-n+1):=by
 have hG:=hg.1
 unfold aHx at hG
 unfold aFq.f
 rw[aJa,aE8.2 hg]
 simp only[Option.bind_some,if_true]
 rw[aCk (x:=(es.length:Int)-n) (by omega) (by omega),aCk (by omega) (by omega)]
end
end Cf
namespace Cf
open Go.RowKit Go.Proofs.YtnbljcgdgblgoaaGreatW.PrintWords P
section
variable {n:Nat} {es:List E} {q:Int}
theorem aM2 (g:Gr n es q) (hg:GOk (n:Int) es) (x:List Int) {v:Int} (h0:0<=v) (h1:v<n):rd (rcR n es q x) v=if v=q then 0 else val es v-1-rd x v:=by
 have hf:=aGs g hg
 have hset:=((aEy n λw=>rd (aEg (n:Int) es q) w-rd x w)).set g.hq.1 g.hq.2 0
 have e:(aMa n λw=>rd (aEg (n:Int) es q) w-rd x w)=minL (aEg (n:Int) es q) x:=by unfold minL;rw[hf.1]
 rw[e]at hset
 have h2:=hset.2 v h0 h1
 unfold rcR
 rw[h2]
 show (if v=q then (0:Int) else rd (aEg (n:Int) es q) v-rd x v)=_
 by_cases c:v=q
 ·rw[if_pos c,if_pos c]
 ·rw[if_neg c,if_neg c,aSo g hg h0 h1 c]
theorem aUh (g:Gr n es q) {x:List Int} (h:x∈aJ1 n es q):Red n es q (rd x) :=
 (aP2 g λv v0 v1 _=>bE8 (aUk h) v v0 v1).1 (zdT (List.mem_filter.1 h).2)
theorem aYi (g:Gr n es q) (hg:GOk (n:Int) es) {x:List Int} (h:x∈aJ1 n es q):bHc n es q (rcR n es q x):=by
 have hr:=aUh g h
 refine⟨aP4 g hg x,by rw[aM2 g hg x g.hq.1 g.hq.2,if_pos rfl],?_,λv v0 v1 v2=>?_,λv v0 v1 v2=>?_⟩
 ·intro S hS hx
  obtain⟨v,v0,v1,v2,v3⟩:=hr.2 S hS hx
  have hvq:v≠q:=by
   rintro rfl
   rw[hS]at v2
   cases v2
  refine⟨v,v0,v1,v2,?_⟩
  unfold bGd
  rw[aM2 g hg x v0 v1,if_neg hvq]
  omega
 ·rw[aM2 g hg x v0 v1,if_neg v2]
  have:=hr.1 v v0 v1 v2
  omega
 ·rw[aM2 g hg x v0 v1,if_neg v2]
  have:=(hr.lt g.hes v0 v1 v2).2
  omega
theorem aSr (g:Gr n es q) (hg:GOk (n:Int) es) {x:List Int} (h:x∈aJ1 n es q):(minL (aEg (n:Int) es q) (rcR n es q x)).set q.toNat (-1)=x.set q.toNat (-1):=by
 have hf:=aGs g hg
 have hq:=g.hq
 have hl:=(aFd h).1
 have hset:=((aEy n λw=>rd (aEg (n:Int) es q) w-rd (rcR n es q x) w)).set g.hq.1 g.hq.2 (-1)
 have e:(aMa n λw=>rd (aEg (n:Int) es q) w-rd (rcR n es q x) w)=minL (aEg (n:Int) es q) (rcR n es q x):=by unfold minL;rw[hf.1]
 rw[e]at hset
 refine hset.ext (((Rep.self hl).set g.hq.1 g.hq.2 (-1)).congr λw w0 w1=>?_)
 show (if w=q then(-1:Int) else rd x w)=if w=q then -1 else rd (aEg (n:Int) es q) w-rd (rcR n es q x) w
 by_cases c:w=q
 ·rw[if_pos c,if_pos c]
 ·rw[if_neg c,if_neg c,aSo g hg w0 w1 c,aM2 g hg x w0 w1,if_neg c]
  omega
theorem aSn (g:Gr n es q) (hg:GOk (n:Int) es) {x:List Int} (h:x∈aJ1 n es q):(minL (aEg (n:Int) es q) (x.set q.toNat (-1))).set q.toNat 0=rcR n es q x:=by
 have hf:=aGs g hg
 have hl:=(aFd h).1
 have hx:=(Rep.self hl).set g.hq.1 g.hq.2 (-1)
 have hset:=((aEy n λw=>rd (aEg (n:Int) es q) w-rd (x.set q.toNat (-1)) w)).set g.hq.1 g.hq.2 0
 have e:(aMa n λw=>rd (aEg (n:Int) es q) w-rd (x.set q.toNat (-1)) w)=minL (aEg (n:Int) es q) (x.set q.toNat (-1)):=by unfold minL;rw[hf.1]
 rw[e]at hset
 refine hset.ext ((Rep.self (aP4 g hg x)).congr λw w0 w1=>?_)
 show rd (rcR n es q x) w=if w=q then (0:Int) else rd (aEg (n:Int) es q) w-rd (x.set q.toNat (-1)) w
 rw[aM2 g hg x w0 w1]
 by_cases c:w=q
 ·rw[if_pos c,if_pos c]
 ·have h2:=hx.2 w w0 w1
  simp only[if_neg c]at h2
  rw[if_neg c,if_neg c,aSo g hg w0 w1 c,h2]
theorem aYm (g:Gr n es q) (hg:GOk (n:Int) es) {x:List Int} (h:x∈aJ1 n es q):aSs (n:Int) es (x.set q.toNat (-1)) q=true:=by
 have hq:=g.hq
 have hl:=(aFd h).1
 have hl2:(x.set q.toNat (-1)).length=n:=by rw[List.length_set];exact hl
 have hx:=(Rep.self hl).set g.hq.1 g.hq.2 (-1)
 have hrd:∀ v:Int,0<=v->v<n->v≠q->rd (x.set q.toNat (-1)) v=rd x v:=λv v0 v1 v2=>by
  have h2:=hx.2 v v0 v1
  simp only[if_neg v2]at h2
  exact h2
 have hrq:rd (x.set q.toNat (-1)) q=-1:=by
  have h2:=hx.2 q g.hq.1 g.hq.2
  simp only[if_true]at h2
  exact h2
 have bK9:Red n es q (rd (x.set q.toNat (-1))):=bJd (aUh g h) λv v0 v1 v2=>(hrd v v0 v1 v2).symm
 have hB:=aYf g h
 have hbd:∀ y∈x.set q.toNat (-1),-60<=y/\y<=60:=by
  intro y hy
  obtain⟨j,hj,rfl⟩:=List.getElem_of_mem hy
  rw[<-aEc hj]
  by_cases c:(j:Int)=q
  ·rw[c,hrq]
   omega
  ·rw[hrd _ (by omega) (by omega) c]
   have:=hB (j:Int) (by omega) (by omega)
   omega
 have hd:dOk (n:Int) es (x.set q.toNat (-1))=true:=aLm.2 ⟨hg,by omega,hbd⟩
 have hb:bOk (n:Int) es (x.set q.toNat (-1)) q=true:=by
  unfold bOk
  rw[hd,zdY (by omega)]
  rfl
 have bOv:aIs q (x.set q.toNat (-1)) (x.set q.toNat (-1)).length 0<0:=by
  apply Classical.byContradiction
  intro hc
  obtain⟨h0,h1,h2,h3⟩:=bCx hl2 hc
  have:=bK9.1 _ h0 h1 h2
  omega
 unfold aSs bI2
 rw[if_pos hb,if_pos bOv,bH1 hb]
 have h1:=(aP2 g bK9.1).2 bK9
 rw[if_pos (by simp only[beq_iff_eq];omega),hrq]
 rfl
theorem bFe (g:Gr n es q) (hg:GOk (n:Int) es) {x y:List Int} (hx:x∈aJ1 n es q) (hy:y∈aJ1 n es q) (h:rcR n es q x=rcR n es q y):x=y:=by
 have lx:=(aFd hx).1
 have ly:=(aFd hy).1
 have qx:=aKo g hx
 have qy:=aKo g hy
 have hq:=g.hq
 refine(Rep.self lx).ext ((Rep.self ly).congr λw w0 w1=>?_)
 by_cases c:w=q
 ·rw[<-aJv,Int.toNat_of_nonneg (by omega)]at qx qy
  rw[c,qx,qy]
 ·have h1:=aM2 g hg x w0 w1
  have h2:=aM2 g hg y w0 w1
  rw[if_neg c]at h1 h2
  rw[h]at h1
  omega
theorem bFc (g:Gr n es q):(aJ1 n es q).Nodup:=by
 have h:=(aPp (aMs es q) n).sublist (List.filter_sublist (p:=pB n es q))
 refine List.Pairwise.imp ?_ h
 intro a b hab e
 subst e
 have:=aLg hab
 rw[hab]at this
 cases this
theorem aSj {L:List (List Int)} {m:Nat} (hr:∀ x∈L,x.length=m) (hn:L.Nodup):(sortL L).Pairwise λa b=>lexB a b=true:=by
 have h1:=aQh L
 have h2:(sortL L).Nodup:=(aI0 L).nodup_iff.2 hn
 refine List.Pairwise.imp_of_mem ?_ (h1.and h2)
 intro a b ha hb hab
 rw[bDx ((hr a (aKi.1 ha)).trans (hr b (aKi.1 hb)).symm)]
 refine zdY ?_
 have h3:aI3 a b≠0:=λe=>hab.2 (aKv e)
 have:=hab.1
 omega
theorem aW7 (g:Gr n es q) (hg:GOk (n:Int) es):(sortL (rcL n es q)).Pairwise λa b=>lexB a b=true :=
 aSj (m:=n) (λx hx=>aSp g hg hx) (aJ6 (λx hx y hy h=>bFe g hg hx hy h) (bFc g))
end
end Cf
namespace Cf
open Go.RowKit Go.Proofs.YtnbljcgdgblgoaaGreatW.PrintWords P
noncomputable def bNn (n:Int) (es:List E) (p:List Int) (q:Int):Int×Bool:=if aYh n es p q=true then(wrap64 (wrap64 (p.sum+aOw n es q)-(es.length:Int)),true) else (0,false)
theorem bCj (n:Int) (es:List E) (p:List Int) (q:Int) (hel:es.length<=1048576) (hl:p.length<=1048576):Ep (λk=>aCz.f k n es p q) (·=bNn n es p q):=by
 simp only[aCz.f,bNn]
 refine Ep.bind (aR6 n es p q hel hl) ?_
 rintro _ rfl
 refine Ep.ite (λh=>?_) (λh=>Ep.now (by rw[if_neg h]))
 obtain⟨m,rfl,_,_,_,hm⟩:=aSt (aP3 h)
 refine Ep.bind (bFx p hl hm) ?_
 rintro _ rfl
 refine Ep.bind (aGh m es q hel) ?_
 rintro _ rfl
 exact Ep.now (by rw[if_pos h])
end Cf
namespace Cf
theorem aQz {a b c:E} (h:leE a b) (k:leE b c):leE a c:=by
 unfold leE at *
 omega
theorem aLx {es:List E} (h:es.Pairwise leE):Sorted es:=λi hi=>by
 rw[List.pairwise_iff_getElem]at h
 exact h i (i+1) (by omega) hi (by omega)
theorem aM3:∀ {es:List E},Sorted es->es.Pairwise leE
 | [],_=>List.Pairwise.nil
 | a::r,h=>by
  have hr:Sorted r:=λi hi=>h (i+1) (by simpa using hi)
  have ih:=aM3 hr
  refine List.Pairwise.cons (λb hb=>?_) ih
  cases r with
  | nil=>cases hb
  | cons c s =>
   have h0:leE a c:=h 0 (by simp)
   rcases List.mem_cons.1 hb with rfl|hb
   ·exact h0
   ·exact aQz h0 (List.rel_of_pairwise_cons ih hb)
def aS2 (e:E):List E->List E
 | []=>[e]
 | x::r=>if x.f0>e.f0∨(x.f0=e.f0/\x.f1>e.f1) then e::x::r else x::aS2 e r
theorem aMl {e y:E}:∀ {l:List E},y∈aS2 e l↔y=e∨y∈l
 | []=>by simp[aS2]
 | x::r=>by
  unfold aS2
  split
  ·simp
  ·rw[List.mem_cons,aMl (l:=r),List.mem_cons]
   constructor
   ·rintro (h|h|h)
    ·exact .inr (.inl h)
    ·exact .inl h
    ·exact .inr (.inr h)
   ·rintro (h|h|h)
    ·exact .inr (.inl h)
    ·exact .inl h
    ·exact .inr (.inr h)
theorem aV1 (e:E):∀ (l:List E),(aS2 e l).length=l.length+1
 | []=>rfl
 | x::r=>by
  unfold aS2
  split
  ·simp
  ·simp[aV1 e r]
theorem aZ3 {e:E}:∀ {l:List E},l.Pairwise leE->(aS2 e l).Pairwise leE
 | [],_=>by simp[aS2]
 | x::r,h=>by
  unfold aS2
  have hx:=List.pairwise_cons.1 h
  split
  ·rename_i hc
   refine List.Pairwise.cons (λb hb=>?_) h
   have h1:leE e x:=by unfold leE;omega
   rcases List.mem_cons.1 hb with rfl|hb
   ·exact h1
   ·exact aQz h1 (hx.1 b hb)
  ·rename_i hc
   refine List.Pairwise.cons (λb hb=>?_) (aZ3 hx.2)
   rcases aMl.1 hb with rfl|hb
   ·unfold leE;omega
   ·exact hx.1 b hb
theorem bGc {n:Int} {es:List E} (h:GOk n es) (hl:es.length≠12) {e:E} (he:EOk n e):GOk n (aS2 e es):=by
 obtain⟨⟨h1,h2,h3,h4⟩,h5,h6⟩:=h
 refine⟨⟨h1,h2,by rw[aV1];omega,λx hx=>?_⟩,aLx (aZ3 (aM3 h5)),λv h0 h1=>(h6 v h0 h1).sub λx hx=>aMl.2 (.inr hx)⟩
 rcases aMl.1 hx with rfl|hx
 ·exact he
 ·exact h4 x hx
def hRow (t:List E) (n a:Nat):List E:=(List.range n).flatMap λb=>if a<b then List.replicate (mult t a b).toNat ⟨a,b⟩ else []
def aJb (n:Nat) (t:List E):List E:=(List.range n).flatMap (hRow t n)
theorem aMm {t:List E} {n a:Nat} {e:E}:e∈hRow t n a↔∃ b,b<n/\a<b/\0<mult t a b/\e=⟨a,b⟩:=by
 unfold hRow
 rw[List.mem_flatMap]
 constructor
 ·rintro⟨b,hb,he⟩
  split at he
  ·rename_i hab
   obtain⟨h1,h2⟩:=List.mem_replicate.1 he
   exact⟨b,List.mem_range.1 hb,hab,by omega,h2⟩
  ·cases he
 ·rintro⟨b,hb,hab,hm,rfl⟩
  refine⟨b,List.mem_range.2 hb,?_⟩
  rw[if_pos hab]
  exact List.mem_replicate.2 ⟨by omega,rfl⟩
theorem aOi {t:List E} {n:Nat} {e:E}:e∈aJb n t↔∃ a b:Nat,a<b/\b<n/\0<mult t a b/\e=⟨a,b⟩:=by
 unfold aJb
 rw[List.mem_flatMap]
 constructor
 ·rintro⟨a,_,h⟩
  obtain⟨b,h1,h2,h3,h4⟩:=aMm.1 h
  exact⟨a,b,h2,h1,h3,h4⟩
 ·rintro⟨a,b,h1,h2,h3,h4⟩
  exact⟨a,List.mem_range.2 (by omega),aMm.2 ⟨b,h2,h1,h3,h4⟩⟩
theorem aZj {t:List E} {n:Nat}:∀ e∈aJb n t,EOk (n:Int) e:=by
 intro e he
 obtain⟨a,b,h1,h2,_,rfl⟩:=aOi.1 he
 unfold EOk
 simp only
 omega
theorem aZi (n:Nat) (t:List E):(aJb n t).Pairwise leE:=by
 unfold aJb
 rw[List.pairwise_flatMap]
 refine⟨λa _=>?_,?_⟩
 ·unfold hRow
  rw[List.pairwise_flatMap]
  refine⟨λb _=>?_,?_⟩
  ·split
   ·refine List.pairwise_replicate.2 (.inr ?_)
    unfold leE
    simp
   ·exact List.Pairwise.nil
  ·refine List.pairwise_lt_range.imp ?_
   intro b c hbc x hx y hy
   split at hx
   ·split at hy
    ·rw[List.eq_of_mem_replicate hx,List.eq_of_mem_replicate hy]
     exact .inr ⟨rfl,by show (b:Int)<=(c:Int);omega⟩
    ·cases hy
   ·cases hx
 ·refine List.pairwise_lt_range.imp ?_
  intro a c hac x hx y hy
  obtain⟨_,_,_,_,rfl⟩:=aMm.1 hx
  obtain⟨_,_,_,_,rfl⟩:=aMm.1 hy
  unfold leE
  simp only
  omega
theorem aK4 (f:Nat->List E):∀ n:Nat,(((List.range n).flatMap f).length:Int)=aG4 n (λi=>((f i).length:Int))
 | 0=>rfl
 | n+1=>by
  rw[List.range_succ,List.flatMap_append,List.length_append]
  simp only[aG4,List.flatMap_cons,List.flatMap_nil,List.append_nil]
  rw[<-aK4 f n]
  omega
theorem aWo {n:Nat}:∀ {t:List E},(∀ e∈t,EOk (n:Int) e)->(aJb n t).length=t.length:=by
 have key:∀ t:List E,((aJb n t).length:Int)=aG4 n (λa=>aG4 n (λb=>if a<b then mult t (a:Int) (b:Int) else 0)):=by
  intro t
  unfold aJb
  rw[aK4]
  apply aDg
  intro a _
  unfold hRow
  rw[aK4]
  apply aDg
  intro b _
  have:=aFe t (a:Int) (b:Int)
  split
  ·rw[List.length_replicate];omega
  ·rfl
 intro t
 induction t with
 | nil =>
  intro _
  have:=key []
  have hz:aG4 n (λa=>aG4 n (λb=>if a<b then mult [] (a:Int) (b:Int) else 0))=0:=by
   refine(aDg (g:=λ_=>0) λa _=>?_).trans (aFo n)
   refine(aDg (g:=λ_=>0) λb _=>?_).trans (aFo n)
   split<;>rfl
  rw[hz]at this
  simp only[List.length_nil]
  omega
 | cons e r ih =>
  intro h
  have ih:=ih λx hx=>h x (List.mem_cons_of_mem _ hx)
  have he:=h e List.mem_cons_self
  unfold EOk at he
  have k1:=key (e::r)
  have k2:=key r
  have hs:aG4 n (λa=>aG4 n (λb=>if a<b then mult (e::r) (a:Int) (b:Int) else 0))=1+aG4 n (λa=>aG4 n (λb=>if a<b then mult r (a:Int) (b:Int) else 0)):=by
   have h1:aG4 n (λa=>aG4 n (λb=>if a=e.f0.toNat/\b=e.f1.toNat then (1:Int) else 0))=1:=by
    rw[aDg (g:=λa=>if a=e.f0.toNat then (1:Int) else 0) (λa _=>?_),aI7 e.f0.toNat (by omega)]
    by_cases ha:a=e.f0.toNat
    ·rw[if_pos ha,aDg (g:=λb=>if b=e.f1.toNat then (1:Int) else 0) (λb _=>by simp[ha]),aI7 e.f1.toNat (by omega)]
    ·rw[if_neg ha,aDg (g:=λ_=>(0:Int)) (λb _=>by rw[if_neg (λx=>ha x.1)]),aFo]
   rw[<-h1,<-aFc]
   apply aDg
   intro a _
   rw[<-aFc]
   apply aDg
   intro b _
   have hm:mult (e::r) (a:Int) (b:Int)=aG0 (a:Int) (b:Int) e+mult r (a:Int) (b:Int):=aDb _ _ _
   rw[hm]
   unfold aG0
   by_cases hab:a<b
   ·rw[if_pos hab,if_pos hab]
    by_cases hc:a=e.f0.toNat/\b=e.f1.toNat
    ·rw[if_pos hc,if_pos (.inl ⟨by omega,by omega⟩)]
    ·rw[if_neg hc,if_neg (by omega)]
   ·rw[if_neg hab,if_neg hab,if_neg (by omega)]
    rfl
  rw[List.length_cons]
  omega
structure aO5 (v:Nat) (t:List E):Prop where
 ok:∀ e∈t,EOk (v:Int) e
 len:t.length+1=v
 up:∀ w:Nat,0<w->w<v->∃ a:Nat,a<w/\(⟨(a:Int),(w:Int)⟩:E)∈t
theorem aO5.start:aO5 1 []:=⟨λe he=>(by cases he),rfl,λw h0 h1=>by omega⟩
theorem aO5.next {v:Nat} {t:List E} (h:aO5 v t) {a:Int} (h0:0<=a) (h1:a<v):aO5 (v+1) (t++[⟨a,v⟩]) where
 ok:=λe he=>by
  rcases List.mem_append.1 he with he|he
  ·have:=h.ok e he
   unfold EOk at *
   omega
  ·rw[List.mem_singleton.1 he]
   unfold EOk
   simp only
   omega
 len:=by rw[List.length_append];simp;exact h.len
 up:=λw w0 w1=>by
  by_cases c:w<v
  ·obtain⟨b,hb,hm⟩:=h.up w w0 c
   exact⟨b,hb,List.mem_append_left _ hm⟩
  ·obtain rfl:w=v:=by omega
   refine⟨a.toNat,by omega,List.mem_append_right _ ?_⟩
   have e:((a.toNat:Nat):Int)=a:=by omega
   rw[e]
   exact List.mem_singleton.2 rfl
theorem aO5.gOk {n:Nat} {t:List E} (h:aO5 n t) (hn:n<=6):GOk (n:Int) (aJb n t):=by
 have hl:=aWo h.ok
 have hlen:=h.len
 refine⟨⟨by omega,by omega,by omega,aZj⟩,aLx (aZi n t),?_⟩
 have key:∀ w:Nat,w<n->aH6 (aJb n t) 0 (w:Int):=by
  intro w
  induction w using Nat.strongRecOn with
  | _ w ih =>
   intro hw
   by_cases w0:w=0
   ·subst w0;exact .refl
   ·obtain⟨a,ha,hm⟩:=h.up w (by omega) hw
    have hc:=ih a ha (by omega)
    have hmem:(⟨(a:Int),(w:Int)⟩:E)∈aJb n t:=by
     refine aOi.2 ⟨a,w,ha,hw,?_,rfl⟩
     have h1:=aN1 (es:=t) (f:=aG0 (a:Int) (w:Int)) (λe _=>by unfold aG0;split<;>omega) hm
     have h2:aG0 (a:Int) (w:Int) ⟨(a:Int),(w:Int)⟩=1:=by unfold aG0;simp
     unfold mult
     omega
    exact hc.tail ⟨_,hmem,.inl ⟨rfl,rfl⟩⟩
 intro v h0 h1
 obtain⟨w,rfl⟩:=Int.eq_ofNat_of_zero_le h0
 exact key w (by omega)
end Cf
namespace Cf
open Go.RowKit Go.Proofs.YtnbljcgdgblgoaaGreatW.PrintWords Go.Proofs.YtnbljcgdgblgoaaGreatW.PrintMore P
def Cur (b:List Int) (i:Int):Prop:=0<=i/\i<=b.length
theorem aVh (y:Int):0<=Go.bits .and .i64 y 255/\Go.bits .and .i64 y 255<=255:=by
 have h:((BitVec.ofInt 64 y) &&& (BitVec.ofInt 64 255)).toNat<=255:=by
  rw[BitVec.toNat_and]
  exact Nat.le_trans Nat.and_le_right (by decide)
 have e:Go.bits .and .i64 y 255=(((BitVec.ofInt 64 y) &&& (BitVec.ofInt 64 255)).toNat:Int):=by
  show Go.IntKind.wrap .i64 _=_
  have e0:∀ m:Nat,m<=255->Go.IntKind.wrap .i64 (m:Int)=m:=by
   intro m hm
   exact(aKf m (by omega) (by omega))
  exact e0 _ h
 rw[e]
 omega
theorem aJd {b:List Int} (hb:b.length<=1048576) {i:Int} (h:Int) (hc:Cur b i):∃ x i' h',aCf.f b i h=some (x,i',h')/\0<=x/\x<=255/\Cur b i':=by
 unfold Cur at *
 unfold aCf.f
 split
 ·rw[if_pos hc.1]
  exact⟨_,_,_,rfl,(aVh _).1,(aVh _).2,by rw[aCk (by omega) (by omega)];omega⟩
 ·exact⟨_,_,_,rfl,(aVh _).1,(aVh _).2,hc⟩
theorem aJm {b:List Int} (hb:b.length<=1048576) {i:Int} (h:Int) (hc:Cur b i) {a:Int} (h0:1<=a) (h1:a<=256):∃ x i' h',aBw.f b i h a=some (x,i',h')/\0<=x/\x<a/\Cur b i':=by
 obtain⟨x,i',h',e,x0,x1,hc'⟩:=aJd hb h hc
 refine⟨Int.tmod x a,i',h',?_,Int.tmod_nonneg _ x0,Int.tmod_lt_of_pos _ (by omega),hc'⟩
 unfold aBw.f
 rw[if_neg (by omega),if_pos h1,e]
 show (if a=0 then none else some _)=_
 rw[if_neg (by omega)]
theorem bLg (b:List Int) (hb:b.length<=1048576):∀ (d i:Nat) (h:Int),i+d=b.length->Ep (λk=>aBu.l0 k b h (i:Int)) (λr=>r.1=b/\Cur b r.2.1):=by
 intro d
 induction d with
 | zero =>
  intro i h hi
  refine Ep.up ?_
  simp only[aBu.l0]
  exact Ep.neg (by omega) (Ep.now ⟨rfl,by unfold Cur;simp⟩)
 | succ d ih =>
  intro i h hi
  refine Ep.up ?_
  simp only[aBu.l0]
  refine Ep.pos (by omega) (Ep.ite (λ_=>Ep.pos (by omega) ?_) (λ_=>Ep.now ⟨rfl,by unfold Cur;simp⟩))
  rw[wrap_succ (by omega)]
  exact ih (i+1) _ (by omega)
theorem aZq (b:List Int) (hb:b.length<=1048576):Ep (λk=>aBu.f k b) (λr=>r.1=b/\Cur b r.2.1):=by
 simp only[aBu.f]
 exact bLg b hb b.length 0 _ (by omega)
theorem bGp (b:List Int) (hb:b.length<=1048576) (n:Nat) (hn:n<=1000):∀ (d j:Nat) (i h:Int),j+d=n->Cur b i->Ep (λk=>aC9.l0 k (n:Int) (j:Int) b i h) (λr=>r.1=b/\Cur b r.2.1):=by
 intro d
 induction d with
 | zero =>
  intro j i h hj hc
  refine Ep.up ?_
  simp only[aC9.l0]
  exact Ep.neg (by omega) (Ep.now ⟨rfl,hc⟩)
 | succ d ih =>
  intro j i h hj hc
  obtain⟨x,i',h',e,_,_,hc'⟩:=aJd hb h hc
  refine Ep.up ?_
  simp only[aC9.l0]
  refine Ep.pos (by omega) (Ep.aEr e ?_)
  rw[wrap_succ (by omega)]
  exact ih (j+1) i' h' (by omega) hc'
theorem bCy (b:List Int) (hb:b.length<=1048576) (n:Nat) (hn:n<=1000):Ep (λk=>aC9.f k b (n:Int)) (λr=>r.1=b/\Cur b r.2.1):=by
 simp only[aC9.f]
 refine Ep.bind (aZq b hb) ?_
 rintro⟨b',i,h⟩ ⟨rfl,hc⟩
 exact bGp _ hb n hn n 0 i h (by omega) hc
theorem bFs (b:List Int) (hb:b.length<=1048576) (n:Nat) (hn:n<=1000):Ep (λk=>aE2.f k b (n:Int)) (λr=>0<=r/\r<=65535):=by
 simp only[aE2.f]
 refine Ep.bind (bCy b hb n hn) ?_
 rintro⟨b',i,h⟩ ⟨rfl,hc⟩
 obtain⟨x,i1,h1,e1,x0,x1,hc1⟩:=aJd hb h hc
 refine Ep.aEr e1 ?_
 obtain⟨y,i2,h2,e2,y0,y1,hc2⟩:=aJd hb h1 hc1
 refine Ep.aEr e2 (Ep.now ?_)
 dsimp only
 rw[aCk (x:=x*256) (by omega) (by omega),aCk (by omega) (by omega)]
 omega
theorem bA3 (es:List E) (hel:es.length<=12) (n:Int) (e:E):∀ (d i:Nat) (acc:List E),i+d=es.length->acc.length<=i+1->Ep (λk=>aAo.l0 k true es (es.length:Int) (i:Int) e.f0 e.f1 n acc) (·=(n,acc++es.drop i,true)):=by
 intro d
 induction d with
 | zero =>
  intro i acc hi ha
  refine Ep.up ?_
  simp only[aAo.l0]
  refine Ep.neg (by omega) (Ep.pos trivial (Ep.now ?_))
  rw[List.drop_of_length_le (by omega),List.append_nil]
 | succ d ih =>
  intro i acc hi ha
  have hlt:i<es.length:=by omega
  refine Ep.up ?_
  simp only[aAo.l0]
  refine Ep.pos (by omega) (Ep.pos (by omega) (Ep.pos (by omega) (Ep.pos trivial (Ep.pos (by omega) ?_))))
  rw[aFu hlt,wrap_succ (by omega)]
  refine(ih (i+1) _ (by omega) (by simp;omega)).mono ?_
  rintro _ rfl
  rw[List.drop_eq_getElem_cons hlt,List.append_assoc]
  rfl
theorem aZ4 (e x:E) (r:List E):aS2 e (x::r)=if x.f0>e.f0∨(x.f0=e.f0/\x.f1>e.f1) then e::x::r else x::aS2 e r:=rfl
theorem bH8 (es:List E) (hel:es.length<=12) (n:Int) (e:E):∀ (d i:Nat) (acc:List E),i+d=es.length->acc.length<=i->Ep (λk=>aAo.l0 k false es (es.length:Int) (i:Int) e.f0 e.f1 n acc) (·=(n,acc++aS2 e (es.drop i),true)):=by
 intro d
 induction d with
 | zero =>
  intro i acc hi ha
  refine Ep.up ?_
  simp only[aAo.l0]
  refine Ep.neg (by omega) (Ep.neg (by simp) (Ep.pos (by omega) (Ep.now ?_)))
  rw[List.drop_of_length_le (by omega)]
  rfl
 | succ d ih =>
  intro i acc hi ha
  have hlt:i<es.length:=by omega
  refine Ep.up ?_
  simp only[aAo.l0]
  refine Ep.pos (by omega) (Ep.pos (by omega) (Ep.pos (by omega) (Ep.neg (by simp) ?_)))
  rw[aFu hlt,wrap_succ (by omega),List.drop_eq_getElem_cons hlt]
  have put:∀ (hx:es[i].f0>e.f0∨(es[i].f0=e.f0/\es[i].f1>e.f1)),Ep (λk=>(some (acc++[(⟨e.f0,e.f1⟩:E)])).bind λy=>if y.length<8796093022208 then aAo.l0 k true es (es.length:Int) ((i+1:Nat):Int) e.f0 e.f1 n (y++[(⟨es[i].f0,es[i].f1⟩:E)]) else none) (·=(n,acc++aS2 e (es[i]::es.drop (i+1)),true)):=by
   intro hx
   refine Ep.aEr rfl (Ep.pos (by simp;omega) ?_)
   refine(bA3 es hel n e d (i+1) _ (by omega) (by simp;omega)).mono ?_
   rintro _ rfl
   unfold aS2
   rw[if_pos hx]
   simp only[List.append_assoc,List.cons_append,List.nil_append]
  have go:∀ (hx:¬ (es[i].f0>e.f0∨(es[i].f0=e.f0/\es[i].f1>e.f1))),Ep (λk=>aAo.l0 k false es (es.length:Int) ((i+1:Nat):Int) e.f0 e.f1 n (acc++[(⟨es[i].f0,es[i].f1⟩:E)])) (·=(n,acc++aS2 e (es[i]::es.drop (i+1)),true)):=by
   intro hx
   refine(ih (i+1) _ (by omega) (by simp;omega)).mono ?_
   rintro _ rfl
   rw[List.append_assoc,aZ4,if_neg hx]
   rfl
  refine Ep.ite (λh1=>Ep.pos (by omega) (put (.inl h1))) (λh1=>Ep.ite (λh2=>Ep.ite (λh3=>Ep.pos (by omega) (put (.inr ⟨h2,h3⟩))) (λh3=>Ep.pos (by omega) (go (by omega)))) (λh2=>Ep.pos (by omega) (go (by omega))))
theorem bH7 {n:Int} {es:List E} (hg:GOk n es) (a b:Int):Ep (λk=>aAo.f k n es a b) (λr=>r.2.2=true->r.1=n/\GOk n r.2.1):=by
 have hG:=hg.1
 unfold aHx at hG
 have hw:wrap64 (n-1)=n-1:=aCk (by omega) (by omega)
 have no:Ep (λk=>aAo.j0 k a b true n es) (λr=>r.2.2=true->r.1=n/\GOk n r.2.1):=by
  refine Ep.up ?_
  simp only[aAo.j0]
  exact Ep.pos trivial (Ep.now (λh=>by cases h))
 simp only[aAo.f]
 refine Ep.bind (aJ0 n es) ?_
 rintro _ rfl
 rw[aE8.2 hg]
 refine Ep.pos rfl (Ep.aEr (aIg _ _ _) (Ep.ite (λh1=>?_) (λ_=>no)))
 refine Ep.aEr (aIg _ _ _) (Ep.ite (λh2=>?_) (λ_=>no))
 rw[decide_eq_true_eq,hw]at h1 h2
 refine Ep.ite (λ_=>no) (λh3=>?_)
 refine Ep.up ?_
 simp only[aAo.j0]
 refine Ep.ite (λ_=>Ep.now (λh=>by cases h)) (λh4=>?_)
 have h5:es.length≠12:=by
  intro h
  rw[h]at h4
  exact h4 rfl
 refine(bH8 es hG.2.2.1 n ⟨mn a b,mx a b⟩ es.length 0 [] (by omega) (by simp)).mono ?_
 rintro _ rfl _
 refine⟨rfl,bGc hg h5 ?_⟩
 unfold EOk mn mx
 dsimp only
 split<;>split<;>omega
def hTo (t:List E) (n a b:Nat):List E:=(List.range a).flatMap (hRow t n)++(List.range b).flatMap λc=>if a<c then List.replicate (mult t a c).toNat ⟨a,c⟩ else []
theorem aZf (t:List E) (n a:Nat):hTo t n a (a+1)=(List.range a).flatMap (hRow t n):=by
 have h:((List.range (a+1)).flatMap λc=>if a<c then List.replicate (mult t a c).toNat (⟨a,c⟩:E) else [])=[]:=List.flatMap_eq_nil_iff.2 λc hc=>by rw[if_neg (by have:=List.mem_range.1 hc;omega)]
 unfold hTo
 rw[h,List.append_nil]
theorem bGa (t:List E) (n a:Nat):hTo t n a n=(List.range (a+1)).flatMap (hRow t n):=by
 unfold hTo
 rw[List.range_succ,List.flatMap_append]
 simp[hRow]
theorem bCp (t:List E) (n a b:Nat) (h:a<b):hTo t n a (b+1)=hTo t n a b++List.replicate (mult t a b).toNat ⟨a,b⟩:=by
 unfold hTo
 rw[List.range_succ (n:=b),List.flatMap_append,<-List.append_assoc]
 simp[h]
theorem aK3 (C:Nat) (f:Nat->List E) (h:∀ i,(f i).length<=C):∀ n:Nat,((List.range n).flatMap f).length<=C*n:=by
 intro n
 induction n with
 | zero=>simp
 | succ n ih =>
  rw[List.range_succ,List.flatMap_append,List.length_append]
  have:=h n
  simp only[List.flatMap_cons,List.flatMap_nil,List.append_nil]
  rw[Nat.mul_succ]
  omega
theorem bG9 (t:List E) (ht:t.length<=12) (n a b:Nat) (hn:n<=6) (ha:a<=6) (hb:b<=6):(hTo t n a b).length<=1000:=by
 have hr:∀ a c:Nat,(if a<c then List.replicate (mult t a c).toNat (⟨a,c⟩:E) else []).length<=12:=by
  intro a c
  have:=aJ7 t a c
  split
  ·rw[List.length_replicate];omega
  ·simp
 have h1:∀ a,(hRow t n a).length<=72:=λa=>Nat.le_trans (aK3 12 _ (hr a) n) (by omega)
 have h2:=aK3 72 (hRow t n) h1 a
 have h3:=aK3 12 _ (hr a) b
 unfold hTo
 rw[List.length_append]
 omega
def aRw (b:List Int) (most:Int) (r:Int×List E×Int×Int):Prop:=∃ n:Nat,r.1=n/\2<=n/\(n:Int)<=most/\GOk (n:Int) r.2.1/\Cur b r.2.2.1
theorem bGj {b:List Int} (hb:b.length<=1048576) {n:Nat} (h2:2<=n) (h6:n<=6) {most:Int} (hm:(n:Int)<=most):∀ (c:Nat) (es:List E) (i h:Int),c<=10->GOk (n:Int) es->Cur b i->Ep (λk=>aAb.l4 k (n:Int) (c:Int) b i h (n:Int) es) (aRw b most):=by
 intro c
 induction c with
 | zero =>
  intro es i h _ hg hc
  refine Ep.up ?_
  simp only[aAb.l4]
  exact Ep.neg (by omega) (Ep.now ⟨n,rfl,h2,hm,hg,hc⟩)
 | succ c ih =>
  intro es i h bW1 hg hc
  refine Ep.up ?_
  simp only[aAb.l4]
  refine Ep.pos (by omega) ?_
  obtain⟨x,i1,h1,e1,x0,x1,hc1⟩:=aJm hb h hc (a:=(n:Int)) (by omega) (by omega)
  refine Ep.aEr e1 ?_
  rw[show wrap64 ((n:Int)-1)=n-1 from aCk (by omega) (by omega)]
  obtain⟨y,i2,h2',e2,y0,y1,hc2⟩:=aJm hb h1 hc1 (a:=(n:Int)-1) (by omega) (by omega)
  refine Ep.aEr e2 (Ep.neg (by omega) ?_)
  rw[show wrap64 (((c+1:Nat):Int)-1)=c from by rw[aCk (by omega) (by omega)];omega]
  refine Ep.bind (bH7 hg _ _) ?_
  rintro⟨n',es',ok⟩ hr
  refine Ep.ite (λh3=>?_) (λ_=>ih es i2 h2' (by omega) hg hc2)
  obtain⟨h4,h5⟩:=hr h3
  dsimp only at h4 h5
  subst h4
  exact ih es' i2 h2' (by omega) h5 hc2
theorem bGk {b:List Int} {n a c:Int} {t:List E} {i h:Int} {Q:Int×List E×Int×Int->Prop}:∀ (m:Nat) (acc:List E),m<=20->acc.length+m<=2000->Ep (λk=>aAb.l2 k n a (wrap64 (c+1)) b i h n t n (acc++List.replicate m ⟨a,c⟩)) Q ->
  Ep (λk=>aAb.l3 k n a c (m:Int) b i h n t n acc) Q:=by
 intro m
 induction m with
 | zero =>
  intro acc _ hl hk
  refine Ep.up ?_
  simp only[aAb.l3]
  refine Ep.neg (by omega) ?_
  simpa using hk
 | succ m ih =>
  intro acc hm hl hk
  refine Ep.up ?_
  simp only[aAb.l3]
  refine Ep.pos (by omega) (Ep.pos (by omega) ?_)
  rw[show wrap64 (((m+1:Nat):Int)-1)=m from by rw[aCk (by omega) (by omega)];omega]
  refine ih _ (by omega) (by simp;omega) ?_
  rw[List.append_assoc,show [(⟨a,c⟩:E)]++List.replicate m ⟨a,c⟩=List.replicate (m+1) ⟨a,c⟩ from rfl]
  exact hk
theorem bGl {b:List Int} {n:Nat} (h6:n<=6) {t:List E} (ht:aO5 n t) {i h:Int} {a:Nat} (ha:a<n) {Q:Int×List E×Int×Int->Prop}
  (hk:Ep (λk=>aAb.l1 k (n:Int) ((a+1:Nat):Int) b i h (n:Int) t (n:Int) ((List.range (a+1)).flatMap (hRow t n))) Q):∀ (d c:Nat),c+d=n->a<c ->
  Ep (λk=>aAb.l2 k (n:Int) (a:Int) (c:Int) b i h (n:Int) t (n:Int) (hTo t n a c)) Q:=by
 have hl:=ht.len
 intro d
 induction d with
 | zero =>
  intro c hc hac
  refine Ep.up ?_
  simp only[aAb.l2]
  obtain rfl:c=n:=by omega
  refine Ep.neg (by omega) ?_
  rw[wrap_succ (by omega),bGa]
  exact hk
 | succ d ih =>
  intro c hc hac
  refine Ep.up ?_
  simp only[aAb.l2]
  refine Ep.pos (by omega) (Ep.bind (aUb (n:Int) t ht.ok (by omega) (a:Int) (c:Int) (by omega) (by omega)) ?_)
  rintro _ rfl
  have hm0:=aFe t (a:Int) (c:Int)
  have hm1:=aJ7 t (a:Int) (c:Int)
  have hlen:=bG9 t (by omega) n a c h6 (by omega) (by omega)
  obtain⟨m,hm⟩:=Int.eq_ofNat_of_zero_le hm0
  rw[hm]
  refine bGk m _ (by omega) (by omega) ?_
  rw[wrap_succ (by omega)]
  have:=ih (c+1) (by omega) (by omega)
  rw[bCp t n a c hac,hm]at this
  exact this
theorem bGm {b:List Int} (hb:b.length<=1048576) {n:Nat} (h2:2<=n) (h6:n<=6) {most:Int} (hm:(n:Int)<=most) {t:List E} (ht:aO5 n t) {i h:Int} (hc:Cur b i):∀ (d a:Nat),a+d=n ->
  Ep (λk=>aAb.l1 k (n:Int) (a:Int) b i h (n:Int) t (n:Int) ((List.range a).flatMap (hRow t n))) (aRw b most):=by
 intro d
 induction d with
 | zero =>
  intro a ha
  refine Ep.up ?_
  simp only[aAb.l1]
  obtain rfl:a=n:=by omega
  refine Ep.neg (by omega) ?_
  obtain⟨x,i1,h1,e1,x0,x1,hc1⟩:=aJm hb h hc (a:=5) (by omega) (by omega)
  refine Ep.aEr e1 ?_
  obtain⟨c,rfl⟩:=Int.eq_ofNat_of_zero_le x0
  exact bGj hb h2 h6 hm c _ i1 h1 (by omega) (ht.gOk h6) hc1
 | succ d ih =>
  intro a ha
  refine Ep.up ?_
  simp only[aAb.l1]
  refine Ep.pos (by omega) ?_
  rw[wrap_succ (by omega),<-aZf]
  exact bGl h6 ht (by omega) (ih (a+1) (by omega)) (n-(a+1)) (a+1) (by omega) (by omega)
theorem bGn {b:List Int} (hb:b.length<=1048576) {n:Nat} (h2:2<=n) (h6:n<=6) {most:Int} (hm:(n:Int)<=most):∀ (d v:Nat) (t:List E) (i h:Int),v+d=n->1<=v->aO5 v t->Cur b i ->
  Ep (λk=>aAb.l0 k (n:Int) (v:Int) b i h (v:Int) t) (aRw b most):=by
 intro d
 induction d with
 | zero =>
  intro v t i h hv h1 ht hc
  refine Ep.up ?_
  simp only[aAb.l0]
  obtain rfl:v=n:=by omega
  refine Ep.neg (by omega) ?_
  exact bGm hb h2 h6 hm ht hc v 0 (by omega)
 | succ d ih =>
  intro v t i h hv h1 ht hc
  have hl:=ht.len
  refine Ep.up ?_
  simp only[aAb.l0]
  obtain⟨x,i1,h1',e1,x0,x1,hc1⟩:=aJm hb h hc (a:=(v:Int)) (by omega) (by omega)
  refine Ep.pos (by omega) (Ep.aEr e1 (Ep.pos (by omega) ?_))
  rw[wrap_succ (by omega)]
  exact ih (v+1) _ i1 h1' (by omega) (by omega) (ht.next x0 x1) hc1
theorem bGi {b:List Int} (hb:b.length<=1048576) {i:Int} (h:Int) (hc:Cur b i) {most:Int} (h3:2<=most) (h5:most<=6):Ep (λk=>aAb.f k b i h most) (aRw b most):=by
 simp only[aAb.f]
 rw[aCk (x:=most-1) (by omega) (by omega)]
 obtain⟨x,i1,h1,e1,x0,x1,hc1⟩:=aJm hb h hc (a:=most-1) (by omega) (by omega)
 refine Ep.aEr e1 ?_
 dsimp only
 obtain⟨c,rfl⟩:=Int.eq_ofNat_of_zero_le x0
 rw[show wrap64 (2+(c:Int))=((2+c:Nat):Int) from by rw[aCk (by omega) (by omega)];omega]
 exact bGn hb (by omega) (by omega) (by omega) (1+c) 1 [] i1 h1 (by omega) (by omega) .start hc1
structure Pl (n:Nat) (q:Int) (p:List Int):Prop where
 len:p.length=n
 bd:∀ y∈p,0<=y/\y<=6
 hq:rd p q=0
end Cf
namespace Cf
open Go.RowKit Go.Proofs.YtnbljcgdgblgoaaGreatW.PrintWords P
theorem aZy {b:List Int} (hb:b.length<=1048576) {i:Int} (h:Int) (hc:Cur b i) {a:Int} (h0:1<=a):∃ x i' h',aBw.f b i h a=some (x,i',h')/\0<=x/\x<a/\Cur b i':=by
 by_cases h1:a<=256
 ·exact aJm hb h hc h0 h1
 obtain⟨x,i1,h1',e1,x0,x1,hc1⟩:=aJd hb h hc
 obtain⟨y,i2,h2',e2,y0,y1,hc2⟩:=aJd hb h1' hc1
 obtain⟨z,i3,h3',e3,z0,z1,hc3⟩:=aJd hb h2' hc2
 obtain⟨u,i4,h4',e4,u0,u1,hc4⟩:=aJd hb h3' hc3
 have ew:wrap64 ((wrap64 ((wrap64 ((wrap64 (x*16777216))+(wrap64 (y*65536))))+(wrap64 (z*256))))+u)=x*16777216+y*65536+z*256+u:=by
  rw[aCk (x:=x*16777216) (by omega) (by omega),aCk (x:=y*65536) (by omega) (by omega),aCk (x:=z*256) (by omega) (by omega),aCk (x:=x*16777216+y*65536) (by omega) (by omega),aCk (x:=x*16777216+y*65536+z*256) (by omega) (by omega),aCk (by omega) (by omega)]
 refine⟨Int.tmod (x*16777216+y*65536+z*256+u) a,i4,h4',?_,Int.tmod_nonneg _ (by omega),Int.tmod_lt_of_pos _ (by omega),hc4⟩
 unfold aBw.f
 rw[if_neg (by omega),if_neg h1,e1]
 dsimp only[Option.bind_some]
 rw[e2]
 dsimp only[Option.bind_some]
 rw[e3]
 dsimp only[Option.bind_some]
 rw[e4]
 dsimp only[Option.bind_some]
 rw[if_neg (by omega),ew]
def tri:List E:=[⟨0,1⟩,⟨0,2⟩,⟨1,2⟩]
theorem aXv:GOk 3 tri:=aE8.1 (by decide)
def aNq (r:Int×List E×List Int):Prop:=∃ n:Nat,r.1=n/\2<=n/\n<=5/\GOk (n:Int) r.2.1/\aIn r.2.1 (vsL n 0)<=400/\r.2.2∈aI6 (n:Int) r.2.1
theorem aXw {n:Nat} {es:List E} (hg:GOk (n:Int) es) (h:aIn es (vsL n 0)<=400):trO (n:Int) es=(aI6 (n:Int) es,true):=by
 unfold trO
 rw[Int.toNat_natCast,if_pos ⟨aE8.2 hg,h⟩]
theorem bIy {n:Nat} {es:List E} (h:¬ aIn es (vsL n 0)<=400):trO (n:Int) es=([],false):=by
 unfold trO
 rw[Int.toNat_natCast,if_neg λc=>h c.2]
theorem bF0:aIn tri (vsL 3 0)<=400:=by decide
theorem bC4 (b:List Int) (hb:b.length<=1048576):Ep (λk=>aCi.f k b) aNq:=by
 simp only[aCi.f]
 refine Ep.bind (aZq b hb) ?_
 rintro⟨b',i,h⟩ ⟨rfl,hc⟩
 refine Ep.bind (P:=aRw b' 5) ?_ ?_
 ·simp only[aDv.f]
  refine Ep.bind (bGi hb h hc (by omega) (by omega)) ?_
  intro a ha
  exact Ep.now ha
 ·rintro⟨n',es,i1,h1⟩ ⟨n,hn,h2,h5,hg,hc1⟩
  dsimp only at hn hg hc1 ⊢
  subst hn
  refine Ep.bind (aQ8 _ _) ?_
  rintro _ rfl
  have bJa:∀ {m:Nat} {l:List E},GOk (m:Int) l->∀ Q:Int×List E×List Int->Prop,(∀ t∈aI6 (m:Int) l,Q ((m:Int),l,t))->Ep (λ_:Nat=>(aBw.f b' i1 h1 ((aI6 (m:Int) l).length:Int)).bind λbt=>if 0<=bt.1 then(if bt.1<((aI6 (m:Int) l).length:Int) then some ((m:Int),l,aBt (aI6 (m:Int) l) bt.1) else none) else none) Q:=by
   intro m l hgl Q hQ
   have hne:=bBm hgl
   have hl0:0<(aI6 (m:Int) l).length:=List.length_pos_iff.2 hne
   obtain⟨x,i2,h2',e2,x0,x1,_⟩:=aZy hb h1 hc1 (a:=((aI6 (m:Int) l).length:Int)) (by omega)
   refine Ep.aEr e2 (Ep.pos x0 (Ep.pos x1 (Ep.now (hQ _ ?_))))
   unfold aBt
   rw[zdG,zdH (show x.toNat<(aI6 (m:Int) l).length by omega)]
   exact List.getElem_mem _
  by_cases h4:aIn es (vsL n 0)<=400
  ·rw[aXw hg h4]
   refine Ep.pos rfl ?_
   exact bJa hg aNq λt ht=>⟨n,rfl,h2,by omega,hg,h4,ht⟩
  ·rw[bIy h4]
   refine Ep.neg (by simp) ?_
   refine Ep.aEr rfl ?_
   have h3:aIn tri (vsL 3 0)<=400:=bF0
   refine Ep.bind (P:=(·=(aI6 ((3:Nat):Int) tri,true))) ((aQ8 3 tri).mono λr hr=>hr.trans (aXw (n:=3) aXv h3)) ?_
   rintro _ rfl
   exact bJa (m:=3) aXv aNq λt ht=>⟨3,rfl,by omega,by omega,aXv,h3,ht⟩
theorem bFa (a b:List Int) (hl:a.length=b.length) (hb:a.length<=1048576):∀ (d i:Nat),i+d=a.length->Ep (λk=>aD3.l0 k b a (a.length:Int) (i:Int)) (·=decide (a.drop i=b.drop i)):=by
 intro d
 induction d with
 | zero =>
  intro i hi
  refine Ep.up ?_
  simp only[aD3.l0]
  refine Ep.neg (by omega) (Ep.now ?_)
  rw[List.drop_of_length_le (by omega),List.drop_of_length_le (by omega)]
  rfl
 | succ d ih =>
  intro i hi
  have h1:i<a.length:=by omega
  have h2:i<b.length:=by omega
  refine Ep.up ?_
  simp only[aD3.l0]
  refine Ep.pos (by omega) (Ep.pos (by omega) (Ep.pos (by omega) (Ep.pos (by omega) ?_)))
  rw[aEc h1,aEc h2,wrap_succ (by omega),List.drop_eq_getElem_cons h1,List.drop_eq_getElem_cons h2]
  refine Ep.ite (λh=>(ih (i+1) (by omega)).mono ?_) (λh=>Ep.now ?_)
  ·rintro _ rfl
   rw[h]
   simp only[List.cons.injEq,true_and]
  ·rw[eq_comm,decide_eq_false_iff_not]
   intro e
   exact h (List.cons.inj e).1
theorem bF9 (a b:List Int) (hb:a.length<=1048576):Ep (λk=>aD3.f k a b) (·=decide (a=b)):=by
 simp only[aD3.f]
 refine Ep.ite (λh=>?_) (λh=>Ep.now ?_)
 ·simpa using bFa a b (by omega) hb a.length 0 (by omega)
 ·rw[eq_comm,decide_eq_false_iff_not]
  intro e
  exact h (by rw[e])
theorem bBq {a b:List Int} (h:a=b) (hb:a.length<=1048576):Ep (λk=>aD3.f k a b) (·=true):=(bF9 a b hb).mono (by rintro _ rfl;simpa using h)
theorem aWb (a b:List Int) (hl:a.length=b.length) (hb:a.length<=1000):∀ (d i:Nat),i+d=a.length->Ep (λk=>aCu.l0 k b a (a.length:Int) (i:Int)) (·=lexB (a.drop i) (b.drop i)):=by
 intro d
 induction d with
 | zero =>
  intro i hi
  refine Ep.up ?_
  simp only[aCu.l0]
  refine Ep.neg (by omega) (Ep.now ?_)
  rw[List.drop_eq_nil_of_le (by omega)]
  rfl
 | succ d ih =>
  intro i hi
  have h:=ih (i+1) (by omega)
  have ha:i<a.length:=by omega
  have hb2:i<b.length:=by omega
  refine Ep.up ?_
  simp only[aCu.l0]
  refine Ep.pos (by omega) (Ep.pos (by omega) (Ep.pos (by omega) (Ep.pos (by omega) ?_)))
  rw[List.drop_eq_getElem_cons ha,List.drop_eq_getElem_cons hb2,aEc ha,aEc hb2,wrap_succ (by omega)]
  by_cases e:a[i]=b[i]
  ·refine Ep.pos e (h.mono λr hr=>hr.trans ?_)
   show _=if a[i]=b[i] then _ else _
   rw[if_pos e]
  ·refine Ep.neg e (Ep.now ?_)
   show _=if a[i]=b[i] then _ else _
   rw[if_neg e]
theorem aYw {a b:List Int} (hl:a.length=b.length) (hb:a.length<=1000) (h:lexB a b=true):Ep (λk=>aCu.f k a b) (·=true):=by
 simp only[aCu.f]
 exact(aWb a b hl hb a.length 0 (by omega)).mono λr hr=>hr.trans h
theorem aUn {R:List (List Int)} {i:Nat} (h:i<R.length):aBt R (i:Int)=R[i]:=by
 unfold aBt
 rw[Int.toNat_natCast,zdG,zdH h]
 rfl
theorem bC7 {n:Nat} {es:List E} {q:Int} (g:Gr n es q) (hg:GOk (n:Int) es) {R F:List (List Int)} (eR:R=sortL (rcL n es q)) (eF:F=pkL n es q) (hlen:R.length=F.length):∀ (d i:Nat),i+d=R.length->Ep (λk=>aAz.l0 k q R F R (R.length:Int) (i:Int) (n:Int) es) (·=true):=by
 have hn:Wf .i64 (n:Int):=by have:=g.n6;simp[Wf,Lit.wf,IntKind.min,IntKind.max,IntKind.signed,IntKind.bits];omega
 have h6:=g.n6
 have hel:es.length<=1048576:=by have:=g.hel;omega
 have hRl:R.length<=248832:=by rw[eR,aQi];exact bFf g
 have hRs:R.Pairwise λa b=>lexB a b=true:=by rw[eR];exact aW7 g hg
 have hFs:F.Pairwise λa b=>lexB a b=true:=by rw[eF];exact bFl g
 have hRr:∀ (j:Nat) (h:j<R.length),R[j].length=n:=λj h=>aSp g hg (aKi.1 (by rw[<-eR];exact List.getElem_mem h))
 have hFr:∀ (j:Nat) (h:j<F.length),F[j].length=n:=λj h=>bFk (es:=es) (q:=q) (by rw[<-eF];exact List.getElem_mem h)
 intro d
 induction d with
 | zero =>
  intro i hi
  refine Ep.up ?_
  simp only[aAz.l0]
  exact Ep.neg (by omega) (Ep.now rfl)
 | succ d ih =>
  intro i hi
  have hlt:i<R.length:=by omega
  have hrec:=ih (i+1) (by omega)
  have hmem:R[i]∈rcL n es q:=aKi.1 (by rw[<-eR];exact List.getElem_mem hlt)
  obtain⟨x,hx,hp⟩:=List.mem_map.1 hmem
  have hxl:=(aFd hx).1
  have hxs:(x.set q.toNat (-1)).length=n:=by rw[List.length_set];exact hxl
  have hpl:=aP4 g hg x
  have e1:bNh (n:Int) es (rcR n es q x) q=(x.set q.toNat (-1),true):=by
   unfold bNh
   rw[if_pos ((aYi g hg hx).aYh g hg),aSr g hg hx]
  have e2:bNg (n:Int) es (x.set q.toNat (-1)) q=(rcR n es q x,true):=by
   unfold bNg
   rw[if_pos (aYm g hg hx),aSn g hg hx]
  obtain⟨l1,l2,l3⟩:=bFd g hg hx
  have hge:=aYe g hx
  have e3:bNn (n:Int) es (rcR n es q x) q=(bJs es q (rcR n es q x),true):=by
   unfold bNn
   rw[if_pos ((aYi g hg hx).aYh g hg),bC8 g l3 l2]
  refine Ep.up ?_
  simp only[aAz.l0]
  refine Ep.pos (by omega) (Ep.pos (by omega) (Ep.pos (by omega) ?_))
  rw[aUn hlt,<-hp]
  refine Ep.bind (P:=(·=(x.set q.toNat (-1),true))) ((bG0 (n:Int) es _ q hn hel (by omega)).mono λr hr=>hr.trans e1) ?_
  rintro _ rfl
  refine Ep.bind (P:=(·=(rcR n es q x,true))) ((bFz (n:Int) es _ q hn (by dsimp only;omega)).mono λr hr=>hr.trans e2) ?_
  rintro _ rfl
  refine Ep.bind (P:=(·=(bJs es q (rcR n es q x),true))) ((bCj (n:Int) es _ q hel (by omega)).mono λr hr=>hr.trans e3) ?_
  rintro _ rfl
  refine Ep.pos rfl (Ep.pos rfl (Ep.pos rfl (Ep.bind (bBq rfl (by dsimp only;omega)) ?_)))
  rintro _ rfl
  refine Ep.pos rfl (Ep.bind (aV2 (n:Int) es _ q hn (by dsimp only;omega)) ?_)
  rintro _ rfl
  refine Ep.pos (aYm g hg hx) (Ep.neg (by dsimp only;omega) (Ep.aEr (bG2 hg) (Ep.neg (by dsimp only;omega) ?_)))
  rw[wrap_succ (by omega)]
  by_cases c:i=0
  ·exact Ep.neg (by omega) hrec
  ·obtain⟨j,rfl⟩:∃ j,i=j+1:=⟨i-1,by omega⟩
   have ew:wrap64 (((j+1:Nat):Int)-1)=(j:Int):=by rw[aCk (by omega) (by omega)];omega
   rw[ew]
   have hj:j<R.length:=by omega
   have hjF:j<F.length:=by omega
   have bOu:j+1<F.length:=by omega
   refine Ep.pos (by omega) (Ep.pos (by omega) (Ep.pos (by omega) ?_))
   rw[aUn hj,hp]
   refine Ep.bind (aYw ((hRr j hj).trans (hRr (j+1) hlt).symm) (by rw[hRr j hj];omega) (List.pairwise_iff_getElem.1 hRs j (j+1) hj hlt (by omega))) ?_
   rintro _ rfl
   refine Ep.pos rfl (Ep.pos (by omega) (Ep.pos (by omega) ?_))
   rw[aUn hjF,aUn bOu]
   refine Ep.bind (aYw ((hFr j hjF).trans (hFr (j+1) bOu).symm) (by rw[hFr j hjF];omega) (List.pairwise_iff_getElem.1 hFs j (j+1) hjF bOu (by omega))) ?_
   rintro _ rfl
   exact Ep.pos rfl hrec
theorem aSx (l:List Int) (wl:SL (Wf .u8) l):Ep (λk=>aAz.f k l) (·=true):=by
 simp only[aAz.f]
 refine Ep.ite (λ_=>Ep.now rfl) (λhc=>?_)
 have hb:l.length<=1048576:=by omega
 refine Ep.bind (bC4 l hb) ?_
 rintro⟨n',es,t⟩ ⟨n,hn,h2,h5,hg,h4,ht⟩
 dsimp only at hn hg h4 ht ⊢
 subst hn
 refine Ep.bind (bFs l hb 60 (by omega)) ?_
 intro y hy
 refine Ep.neg (by omega) ?_
 have hq0:=Int.tmod_nonneg (a:=y) (n:Int) hy.1
 have hq1:=Int.tmod_lt_of_pos y (show (0:Int)<n by omega)
 obtain⟨x,hx⟩:=Int.eq_ofNat_of_zero_le hq0
 rw[hx]at hq1 ⊢
 have g:Gr n es (x:Int):=Gr.of hg (by omega)
 have hw:Wf .i64 (n:Int):=by simp[Wf,Lit.wf,IntKind.min,IntKind.max,IntKind.signed,IntKind.bits];omega
 have e1:rcO (n:Int) es (x:Int)=(sortL (rcL n es (x:Int)),true):=by
  unfold rcO
  rw[Int.toNat_natCast,if_pos ⟨aE8.2 hg,by omega,h4⟩]
 have e2:pkO (n:Int) es (x:Int)=(pkL n es (x:Int),true):=by
  unfold pkO
  rw[Int.toNat_natCast,if_pos ⟨aE8.2 hg,by omega,h4⟩]
 have hcount:=aW5 g
 have l1:((sortL (rcL n es (x:Int))).length:Int)=aIn es (vsL n 0):=by rw[aQi];unfold rcL;rw[List.length_map];exact hcount
 have l2:((pkL n es (x:Int)).length:Int)=aIn es (vsL n 0):=by unfold pkL;rw[List.length_map];exact hcount
 have hpos:1<=aIn es (vsL n 0):=by
  have h:=aSd hg
  have:=List.length_pos_of_mem ht
  omega
 refine Ep.bind (P:=(·=(sortL (rcL n es (x:Int)),true))) ((bJz (n:Int) es (x:Int) hw).mono λr hr=>hr.trans e1) ?_
 rintro _ rfl
 refine Ep.bind (P:=(·=(pkL n es (x:Int),true))) ((bK1 (n:Int) es (x:Int) hw).mono λr hr=>hr.trans e2) ?_
 rintro _ rfl
 refine Ep.bind (aJw hg) ?_
 rintro _ rfl
 refine Ep.pos rfl (Ep.pos rfl (Ep.pos l1 (Ep.pos l2 (Ep.up ?_))))
 simp only[aAz.j0]
 exact Ep.neg (by rw[decide_eq_true_iff];omega) (bC7 g hg rfl rfl (by omega) _ 0 (by rw[Nat.zero_add]))
end Cf
namespace Cf
open Go.RowKit Go.ChangeShapes Go.WideShapes Go.Deep Go.Joins Go.Proofs.YtnbljcgdgblgoaaGreatW.PrintWords
section
variable {H:Type} {enc:TypeId×Value->H} {P:Program} {w:World} {base:Nat} {spare:Nat->Bool} {held:Bool}
theorem bIx {α:Type} {d:Kd α} {Q:α->Prop} (hd:Inhabited α) {t e:TypeId} {fuel:Nat} {cs:List Value} {x:DataW H×List MemPlace} (ht:P.underlying t=some (.slice e)) (hsz:P.cellsOf e=d.sz)
  (hel:∀ (n:Nat) (cs:List Value) (y:DataW H×List MemPlace),DataW.trod enc P w base spare held n e cs=some y->∃ a:α,d.K w a cs/\Q a)
  (h:DataW.trod enc P w base spare held fuel t cs=some x):∃ A len cap xs,cs=[.slice A len cap]/\xs.length=len/\len<=cap/\Kd.C d w A len xs/\SL Q xs:=by
 rcases open_slice ht h with ⟨rfl,_⟩|⟨a,len,cap,m,n,D,Pl,rfl,_,hl,hm,hmm,_,hx⟩
 ·exact⟨none,0,0,[],rfl,rfl,Nat.le_refl _,⟨rfl,by omega,λhn=>by omega⟩,by simp,λx hx=>by cases hx⟩
 ·have hlm:len<=m:=by rw[hmm];split<;>omega
  obtain⟨X,hX⟩:=choose_lt (α:=α) (n:=len) (p:=λi z=>Q z/\∃ c,c.length=d.sz/\d.K w z c/\∀ j u,c[j]? = some u->w.cell? (a.add (i*d.sz+j))=some u) (λi hi=>by
   obtain⟨cs',h1,h2⟩:=hx i (by omega)
   obtain⟨z,hz,hq⟩:=hel n cs' _ h2
   obtain⟨_,hlen,hc⟩:=World.cells?_some h1
   refine⟨z,hq,cs',by rw[hlen,hsz],hz,λj u hj=>?_⟩
   have hjl:j<cs'.length:=by
    apply Classical.byContradiction
    intro hc
    rw[List.getElem?_eq_none (by omega)]at hj
    cases hj
   have:=hc j (by omega)
   rw[Deep.add_add,hsz]at this
   rw[this,hj])
  refine⟨some a,len,cap,(List.range len).map X,rfl,by simp,hl,⟨by simp,?_,λ_=>⟨a,rfl,λj p hj=>?_⟩⟩,by simp;unfold maxLen at hm;omega,λx hx=>?_⟩
  ·unfold maxLen at hm
   omega
  ·have hjl:j<len:=by
    apply Classical.byContradiction
    intro hc
    rw[List.getElem?_eq_none (by simp;omega)]at hj
    cases hj
   have:p=X j:=by
    rw[zdH (by simpa using hjl)]at hj
    simpa using hj.symm
   subst this
   exact(hX j hjl).2
  ·obtain⟨i,hi,rfl⟩:=List.mem_map.1 hx
   exact(hX i (List.mem_range.1 hi)).1
theorem bLb {k:IntKind} {e:TypeId} (he:P.underlying e=some (.int k)):∀ (n:Nat) (cs:List Value) (y:DataW H×List MemPlace),DataW.trod enc P w base spare held n e cs=some y->∃ a:Int,(Kd.int k).K w a cs/\Wf k a:=by
 intro n cs y h
 obtain⟨a,rfl,_,hw⟩:=DataW.trod_int he h
 exact⟨a,rfl,hw⟩
theorem bA1 {α:Type} {d:Kd α} {Q:α->Prop} (hd:Inhabited α) {t e:TypeId} {a:Option Addr} {len cap:Nat} {x:DataW H} {ps:List MemPlace} (ht:P.underlying t=some (.slice e)) (hsz:P.cellsOf e=d.sz)
  (hel:∀ (n:Nat) (cs:List Value) (y:DataW H×List MemPlace),DataW.trod enc P w base spare held n e cs=some y->∃ a:α,d.K w a cs/\Q a)
  (h:DataW.Trod enc P w base spare held t (.slice a len cap) x ps):∃ xs:List α,xs.length=len/\len<=cap/\Kd.C d w a len xs/\SL Q xs:=by
 obtain⟨fuel,hf⟩:=h
 obtain⟨A,l,c,xs,hcs,hl,hc,hC,hq⟩:=bIx hd ht hsz hel hf
 simp[Value.cells]at hcs
 obtain⟨rfl,rfl,rfl⟩:=hcs
 exact⟨xs,hl,hc,hC,hq⟩
end
end Cf
namespace Cf
theorem bUj {a b:Bool} (h:a=true) (k:b=true):(a&&b)=true:=by rw[h,k];rfl
theorem bSx:Tryz.prog.initOrder.toList=['h','a','r','n','e','s','s',' ','0','a','3','4','d','e','f','5','d','c','7','9','7','4','3','6','e','3','f','2','3','0','5','5','5','b','2','4','5','1','4','8','f','0','e','1','a','7','9','8','f','c','0','c','2','8','7','1','b','e','b','2','1','e','3','7','8','b','7','2','4','c','2','2',' ','c','u','t',' ','a','t',' ','l','o','o','p','.','e','x','a','m','p','l','e','/','g','0','0','8','4','1','/','l','a','w','s','.','F','n','L','i','s','t','s']:=by
 have h:Tryz.prog.initOrder=String.ofList ['h','a','r','n','e','s','s',' ','0','a','3','4','d','e','f','5','d','c','7','9','7','4','3','6','e','3','f','2','3','0','5','5','5','b','2','4','5','1','4','8','f','0','e','1','a','7','9','8','f','c','0','c','2','8','7','1','b','e','b','2','1','e','3','7','8','b','7','2','4','c','2','2',' ','c','u','t',' ','a','t',' ','l','o','o','p','.','e','x','a','m','p','l','e','/','g','0','0','8','4','1','/','l','a','w','s','.','F','n','L','i','s','t','s']:=by kernel_rfl
 exact(congrArg String.toList h).trans String.toList_ofList
theorem bOp:behindMainWord (wordsSigns Tryz.prog.initOrder.toList)=[['c','u','t'],['a','t'],['l','o','o','p','.','e','x','a','m','p','l','e','/','g','0','0','8','4','1','/','l','a','w','s','.','F','n','L','i','s','t','s']]:=(congrArg (λx=>behindMainWord (wordsSigns x)) bSx).trans (by kernel_rfl)
theorem bJq {P:Program} {r:List (List Char)} (h:behindMainWord (wordsSigns P.initOrder.toList)=['c','u','t']::r):P.make=some .cut:=by
 unfold Program.make
 rw[h]
 rfl
theorem bJr {P:Program} {r:List (List Char)} (h:behindMainWord (wordsSigns P.initOrder.toList)=['c','u','t']::r) (k:(stripLifts liftWords (['c','u','t']::r)).1=[]):P.liftsFinal=false:=by
 unfold Program.liftsFinal Program.headLifts
 rw[h]
 simp[k]
theorem bLa {P:Program} {r:List (List Char)} (h:behindMainWord (wordsSigns P.initOrder.toList)=['c','u','t']::r) (k1:(stripLifts liftWords (['c','u','t']::r)).1=[]) (k2:((stripLifts liftWords (['c','u','t']::r)).2.head? == some "cut".toList)=true) (h1:P.laysLater=false) (h2:P.bearsReflect=false) (h3:P.doorFits []=true):P.mayEnter=true:=by
 unfold Program.mayEnter
 rw[h]
 simp only[k1,k2,h1,h2,h3]
 simp
theorem make:Tryz.prog.make=some .cut:=bJq bOp
theorem lifted:Tryz.prog.liftsFinal=false:=bJr bOp (by kernel_rfl)
theorem enter:Tryz.prog.mayEnter=true:=bLa bOp (by kernel_rfl) (by kernel_rfl) (by kernel_rfl) (by kernel_rfl) (by kernel_rfl)
end Cf
end Go.Proofs.YtnbljcgdgblgoaaGreat
