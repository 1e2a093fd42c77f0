/- A part of the proof of aE2. -/
import Derived.Test.YtfdaopkbibbhbaaBFnGroups3
import Derived.Test.YtfdaopkbibbhbaaBFnGroups2
import Derived.Test.YtfdaopkbibbhbaaBFnGroups0
import Derived.Test.YtfdaopkbibbhbaaBFnGroups1
import Derived.Deep.LoopGhost
import Derived.Deep.RegionLawGrows
import Derived.Laws.EntriesVeiled
set_option linter.unusedVariables false
set_option linter.unusedSimpArgs false
set_option maxRecDepth 100000
namespace Go.Proofs.Ytfdaopkbibbhbaa
open Go.RowKit Go.Proofs.YtfdaopkbibbhbaaW.PrintWords Go.Proofs.YtfdaopkbibbhbaaW.PrintLast Go.Proofs.YtfdaopkbibbhbaaW.PrintMore
attribute [local go_sem] max2_int min2_int max_two min_two max_three min_three max_four min_four
namespace Cf
def aEg:Nat->(Nat->Int)->Int
 | 0,_=>0
 | n+1,f=>aEg n f+f n
def aHd (es:List E) (f:E->Int):Int:=(es.map f).sum
theorem aQn (f:E->Int):aHd [] f=0:=rfl
theorem aD0 (e:E) (r:List E) (f:E->Int):aHd (e::r) f=f e+aHd r f:=by simp[aHd]
theorem aDg {n:Nat} {f g:Nat->Int} (h:∀ i,i<n->f i=g i):aEg n f=aEg n g:=by
 induction n with
 | zero=>rfl
 | succ n ih=>simp only[aEg];rw[ih (λi hi=>h i (by omega)),h n (by omega)]
theorem aN2 {n:Nat} {f g:Nat->Int} (h:∀ i,i<n->f i<=g i):aEg n f<=aEg n g:=by
 induction n with
 | zero=>exact Int.le_refl _
 | succ n ih =>
  simp only[aEg]
  have:=ih (λi hi=>h i (by omega))
  have:=h n (by omega)
  omega
theorem aFm (n:Nat) (f g:Nat->Int):aEg n (λi=>f i+g i)=aEg n f+aEg n g:=by
 induction n with
 | zero=>rfl
 | succ n ih=>simp only[aEg];rw[ih];omega
theorem aEr (n:Nat):aEg n (λ_=>0)=0:=by
 induction n with
 | zero=>rfl
 | succ n ih=>simp only[aEg];rw[ih];rfl
theorem aMd (n:Nat) (c:Int):aEg n (λ_=>c)=n*c:=by
 induction n with
 | zero=>simp[aEg]
 | succ n ih=>simp only[aEg];rw[ih];rw[Int.natCast_succ,Int.add_mul];omega
theorem aIq {n:Nat} (k:Nat) (hk:k<n) (c:Int):aEg n (λi=>if i=k then c else 0)=c:=by
 induction n with
 | zero=>omega
 | succ n ih =>
  simp only[aEg]
  by_cases h:n=k
  ·subst h
   rw[if_pos rfl,aDg (g:=λ_=>0) (λi hi=>by rw[if_neg (by omega)]),aEr]
   omega
  ·rw[ih (by omega),if_neg h]
   omega
theorem aN1 {n:Nat} {f:Nat->Int} (h:∀ i,i<n->0<=f i) (k:Nat) (hk:k<n):f k<=aEg n f:=by
 induction n with
 | zero=>omega
 | succ n ih =>
  simp only[aEg]
  have h0:0<=aEg n f:=by
   have:=aN2 (n:=n) (f:=λ_=>0) (g:=f) (λi hi=>h i (by omega))
   rw[aEr]at this
   exact this
  by_cases e:k=n
  ·subst e;omega
  ·have:=ih (λi hi=>h i (by omega)) (by omega)
   have:=h n (by omega)
   omega
theorem aGr {es:List E} {f g:E->Int} (h:∀ e∈es,f e=g e):aHd es f=aHd es g:=by
 unfold aHd
 rw[List.map_congr_left h]
theorem aWg (es:List E) (f g:E->Int):aHd es (λe=>f e+g e)=aHd es f+aHd es g:=by
 induction es with
 | nil=>rfl
 | cons e r ih=>rw[aD0,aD0,aD0,ih];omega
theorem aN3 {es:List E} {f g:E->Int} (h:∀ e∈es,f e<=g e):aHd es f<=aHd es g:=by
 induction es with
 | nil=>exact Int.le_refl _
 | cons e r ih =>
  rw[aD0,aD0]
  have:=ih (λx hx=>h x (List.mem_cons_of_mem _ hx))
  have:=h e List.mem_cons_self
  omega
theorem aGq {es:List E} {f:E->Int} (h:∀ e∈es,f e=0):aHd es f=0:=by
 induction es with
 | nil=>rfl
 | cons e r ih=>rw[aD0,ih (λx hx=>h x (List.mem_cons_of_mem _ hx)),h e List.mem_cons_self];rfl
theorem aGw {es:List E} {f:E->Int} (h:∀ e∈es,0<=f e):0<=aHd es f:=by
 have:=aN3 (es:=es) (f:=λ_=>0) (g:=f) h
 rw[aGq (λ_ _=>rfl)]at this
 exact this
theorem aIr {es:List E} {f:E->Int} (h:∀ e∈es,0<=f e) {e:E} (he:e∈es):f e<=aHd es f:=by
 induction es with
 | nil=>cases he
 | cons a r ih =>
  rw[aD0]
  have h0:=aGw (λx hx=>h x (List.mem_cons_of_mem a hx))
  rcases List.mem_cons.1 he with rfl|he
  ·omega
  ·have:=ih (λx hx=>h x (List.mem_cons_of_mem _ hx)) he
   have:=h a List.mem_cons_self
   omega
theorem aQo (es:List E) (f:E->Int):aHd es (λe=>- f e)=- aHd es f:=by
 induction es with
 | nil=>rfl
 | cons e r ih=>rw[aD0,aD0,ih];omega
theorem aQp (es:List E) (c:Int) (f:E->Int):aHd es (λe=>c*f e)=c*aHd es f:=by
 induction es with
 | nil=>simp[aHd]
 | cons e r ih=>rw[aD0,aD0,ih,Int.mul_add]
def aHx (s:Int->Int) (w:Int) (e:E):Int:=(if e.f0=w then s e.f0-s e.f1 else 0)+(if e.f1=w then s e.f1-s e.f0 else 0)
def lap (es:List E) (s:Int->Int) (w:Int):Int:=aHd es (aHx s w)
def ind (P:Int->Bool) (v:Int):Int:=if P v then 1 else 0
def one (v:Int) (t:Int) (w:Int):Int:=if w=v then t else 0
theorem aU7 (s:Int->Int) (w:Int):lap [] s w=0:=rfl
theorem aH0 (e:E) (r:List E) (s:Int->Int) (w:Int):lap (e::r) s w=aHx s w e+lap r s w:=aD0 _ _ _
theorem aFt (es:List E) (s t:Int->Int) (w:Int):lap es (λv=>s v+t v) w=lap es s w+lap es t w:=by
 unfold lap
 rw[<-aWg]
 apply aGr
 intro e _
 simp only[aHx]
 split<;>split<;>omega
theorem aNc (es:List E) (s:Int->Int) (w:Int):lap es (λv=>- s v) w=- lap es s w:=by
 unfold lap
 rw[<-aQo]
 apply aGr
 intro e _
 simp only[aHx]
 split<;>split<;>omega
theorem aLc (es:List E) (s t:Int->Int) (w:Int):lap es (λv=>s v-t v) w=lap es s w-lap es t w:=by
 have:=aFt es s (λv=>- t v) w
 rw[aNc]at this
 rw[show (λv=>s v-t v)=(λv=>s v + - t v) from funext λv=>by omega,this]
 omega
theorem aIy {n:Int} {es:List E} (hes:∀ e∈es,EOk n e) {s t:Int->Int} (h:∀ v,0<=v->v<n->s v=t v) (w:Int):lap es s w=lap es t w:=by
 apply aGr
 intro e he
 have hk:=hes e he
 unfold EOk at hk
 unfold aHx
 rw[h e.f0 (by omega) (by omega),h e.f1 (by omega) (by omega)]
theorem aHj {es:List E} {s:Int->Int} {c:Int} (h:∀ e∈es,s e.f0=c/\s e.f1=c) (w:Int):lap es s w=0:=by
 apply aGq
 intro e he
 unfold aHx
 rw[(h e he).1,(h e he).2]
 split<;>split<;>omega
theorem aOv {n:Nat} {es:List E} (hes:∀ e∈es,EOk n e) (f s:Int->Int):aEg n (λi=>f i*lap es s i)=aHd es (λe=>(f e.f0-f e.f1)*(s e.f0-s e.f1)):=by
 induction es with
 | nil=>simp only[aU7,Int.mul_zero];rw[aEr];rfl
 | cons e r ih =>
  have hk:=hes e List.mem_cons_self
  unfold EOk at hk
  rw[aD0,<-ih (λx hx=>hes x (List.mem_cons_of_mem _ hx))]
  have h1:aEg n (λi=>f i*lap (e::r) s i)=aEg n (λi=>f i*aHx s i e)+aEg n (λi=>f i*lap r s i):=by
   rw[<-aFm]
   apply aDg
   intro i _
   rw[aH0,Int.mul_add]
  rw[h1]
  congr 1
  have h2:aEg n (λi=>f i*aHx s i e)=aEg n (λi=>if i=e.f0.toNat then f e.f0*(s e.f0-s e.f1) else 0)+aEg n (λi=>if i=e.f1.toNat then f e.f1*(s e.f1-s e.f0) else 0):=by
   rw[<-aFm]
   apply aDg
   intro i _
   unfold aHx
   have c0:(e.f0=(i:Int))↔(i=e.f0.toNat):=by omega
   have c1:(e.f1=(i:Int))↔(i=e.f1.toNat):=by omega
   rw[Int.mul_add]
   congr 1
   ·by_cases h:e.f0=(i:Int)
    ·rw[if_pos h,if_pos (c0.1 h),h]
    ·rw[if_neg h,if_neg (λx=>h (c0.2 x)),Int.mul_zero]
   ·by_cases h:e.f1=(i:Int)
    ·rw[if_pos h,if_pos (c1.1 h),h]
    ·rw[if_neg h,if_neg (λx=>h (c1.2 x)),Int.mul_zero]
  rw[h2,aIq _ (by omega),aIq _ (by omega)]
  rw[show s e.f1-s e.f0=-(s e.f0-s e.f1) by omega,Int.mul_neg,Int.sub_mul]
  omega
theorem bAi {n:Nat} {es:List E} (hes:∀ e∈es,EOk n e) (s:Int->Int):aEg n (λi=>lap es s i)=0:=by
 have:=aOv hes (λ_=>1) s
 simp only[Int.one_mul,Int.sub_self,Int.zero_mul]at this
 rw[this]
 exact aGq (λ_ _=>rfl)
def Red (n:Nat) (es:List E) (q:Int) (d:Int->Int):Prop :=
 (∀ v:Int,0<=v->v<n->v≠q->0<=d v)/\∀ S:Int->Bool,S q=false->(∃ v:Int,0<=v/\v<n/\S v=true)->∃ v:Int,0<=v/\v<n/\S v=true/\d v<lap es (ind S) v
theorem aSj {n:Nat} (h:0<n) (s:Int->Int):∃ m:Nat,m<n/\∀ v:Int,0<=v->v<n->s v<=s m:=by
 induction n with
 | zero=>omega
 | succ n ih =>
  by_cases h0:n=0
  ·subst h0
   exact⟨0,by omega,λv h1 h2=>by rw[show v=((0:Nat):Int) by omega];exact Int.le_refl _⟩
  ·obtain⟨m,hm,hmax⟩:=ih (by omega)
   by_cases hc:s m<=s n
   ·refine⟨n,by omega,λv h1 h2=>?_⟩
    by_cases e:v=n
    ·subst e;exact Int.le_refl _
    ·have:=hmax v h1 (by omega)
     omega
   ·refine⟨m,by omega,λv h1 h2=>?_⟩
    by_cases e:v=n
    ·subst e;omega
    ·exact hmax v h1 (by omega)
theorem bAj {n:Int} {es:List E} (hes:∀ e∈es,EOk n e) {s:Int->Int} {M:Int} (hM:∀ v,0<=v->v<n->s v<=M) {v:Int} (hv:s v=M):lap es (ind (λx=>decide (s x=M))) v<=lap es s v:=by
 apply aN3
 intro e he
 have hk:=hes e he
 unfold EOk at hk
 have h0:=hM e.f0 (by omega) (by omega)
 have h1:=hM e.f1 (by omega) (by omega)
 unfold aHx ind
 by_cases a:e.f0=v
 ·have a':s e.f0=M:=by rw[a];exact hv
  have b:¬ e.f1=v:=by omega
  rw[if_pos a,if_pos a,if_neg b,if_neg b]
  by_cases c:s e.f1=M
  ·simp[a',c]
  ·simp[a',c];omega
 ·rw[if_neg a,if_neg a]
  by_cases b:e.f1=v
  ·have b':s e.f1=M:=by rw[b];exact hv
   rw[if_pos b,if_pos b]
   by_cases c:s e.f0=M
   ·simp[b',c]
   ·simp[b',c];omega
  ·rw[if_neg b,if_neg b]
   exact Int.le_refl _
theorem aTw {n:Nat} {es:List E} (hes:∀ e∈es,EOk n e) {q:Int} (hq:0<=q/\q<n) {d d' s:Int->Int} (hd:Red n es q d) (hd':∀ v:Int,0<=v->v<n->v≠q->0<=d' v) (hs:∀ v:Int,0<=v->v<n->d' v=d v-lap es s v):∀ v:Int,0<=v->v<n->s v<=s q:=by
 obtain⟨m,hm,hmax⟩:=aSj (n:=n) (by omega) s
 by_cases hc:s m<=s q
 ·intro v h1 h2
  have:=hmax v h1 h2
  omega
 ·exfalso
  obtain⟨v,h1,h2,hS,hlt⟩:=hd.2 (λx=>decide (s x=s m)) (by simp;omega) ⟨m,by omega,by omega,by simp⟩
  have hv:s v=s m:=by simpa using hS
  have hle:=bAj hes hmax hv
  have hvq:v≠q:=by rintro rfl;omega
  have:=hd' v h1 h2 hvq
  rw[hs v h1 h2]at this
  omega
theorem aMe {n:Nat} {es:List E} (hes:∀ e∈es,EOk n e) {q:Int} (hq:0<=q/\q<n) {d d' s:Int->Int} (hd:Red n es q d) (hd':Red n es q d') (hs:∀ v:Int,0<=v->v<n->d' v=d v-lap es s v) :
  (∀ v:Int,0<=v->v<n->s v=s q)/\∀ v:Int,0<=v->v<n->d' v=d v:=by
 have h1:=aTw hes hq hd hd'.1 hs
 have h2:=aTw (s:=λv=>- s v) hes hq hd' hd.1 (λv a b=>by rw[aNc,hs v a b];omega)
 have hc:∀ v:Int,0<=v->v<n->s v=s q:=λv a b=>by
  have:=h1 v a b
  have:=h2 v a b
  omega
 refine⟨hc,λv a b=>?_⟩
 rw[hs v a b,aHj (c:=s q) (λe he=>?_)]
 ·omega
 ·have hk:=hes e he
  unfold EOk at hk
  exact⟨hc _ (by omega) (by omega),hc _ (by omega) (by omega)⟩
theorem bEl {n:Nat} {es:List E} (hes:∀ e∈es,EOk n e) {s:Int->Int} {t C:Int} (hC:aEg n (λi=>ind (λv=>decide (t<=s v)) i*lap es s i)<=C) {a b:Int} (hab:Adj es a b) (ha:t<=s a) (hb:s b<t):s a-s b<=C:=by
 rw[aOv hes]at hC
 obtain⟨e,he,hx⟩:=hab
 have hnn:∀ e∈es,0<=(ind (λv=>decide (t<=s v)) e.f0-ind (λv=>decide (t<=s v)) e.f1)*(s e.f0-s e.f1):=by
  intro e _
  unfold ind
  by_cases h0:t<=s e.f0<;>by_cases h1:t<=s e.f1<;>simp[h0,h1]<;>omega
 have h1:=aIr hnn he
 have h2:s a-s b<=(ind (λv=>decide (t<=s v)) e.f0-ind (λv=>decide (t<=s v)) e.f1)*(s e.f0-s e.f1):=by
  unfold ind
  rcases hx with ⟨x0,x1⟩|⟨x0,x1⟩
  ·subst x0;subst x1
   have h1:¬ t<=s e.f1:=by omega
   simp[ha,h1]
  ·subst x0;subst x1
   have h1:¬ t<=s e.f0:=by omega
   simp[ha,h1]
   omega
 omega
theorem aJm {es:List E} {S:Int->Prop} {a b:Int} (hab:aGp es a b) (ha:¬ S a) (hb:S b):∃ u w,Adj es u w/\S u/\¬ S w:=by
 induction hab with
 | refl=>exact absurd hb ha
 | @tail x y _ aIi ih =>
  by_cases hx:S x
  ·exact ih hx
  ·exact⟨y,x,aIi.symm,hb,hx⟩
def below (n:Nat) (s:Int->Int) (t:Int):Nat:=(List.range n).countP (λi=>decide (s (i:Nat)<t))
theorem aTq {n:Nat} {es:List E} (hes:∀ e∈es,EOk n e) (hj:Joined n es) {q:Int} (hq:0<=q/\q<n) {s:Int->Int} {C:Int} (hC0:0<=C) (hsq:s q<=0)
  (hC:∀ t:Int,0<t->aEg n (λi=>ind (λv=>decide (t<=s v)) i*lap es s i)<=C):∀ v:Int,0<=v->v<n->s v<=n*C:=by
 have key:∀ k:Nat,∀ v:Int,0<=v->v<n->below n s (s v)<=k->s v<=k*C:=by
  intro k
  induction k with
  | zero =>
   intro v h0 h1 hk
   apply Classical.byContradiction
   intro hc
   have hpos:0<below n s (s v):=by
    unfold below
    rw[List.countP_pos_iff]
    refine⟨q.toNat,List.mem_range.2 (by omega),?_⟩
    have:((q.toNat:Nat):Int)=q:=by omega
    rw[this]
    simp
    omega
   omega
  | succ k ih =>
   intro v h0 h1 hk
   by_cases hpos:s v<=0
   ·have:0<=((k+1:Nat):Int)*C:=Int.mul_nonneg (by omega) hC0
    omega
   ·have hqv:aGp es q v:=((hj q hq.1 hq.2).symm).trans (hj v h0 h1)
    obtain⟨u,w,aIi,hu,hw⟩:=aJm (S:=λx=>s v<=s x) hqv (by omega) (Int.le_refl _)
    have hcut:=bEl hes (hC (s v) (by omega)) aIi hu (by omega)
    have hw0:=aHb.adj hes aIi
    have hlt:below n s (s w)<below n s (s v):=by
     refine aJ3 (λx _ hx=>?_) ⟨w.toNat,List.mem_range.2 (by omega),?_,?_⟩
     ·simp only[decide_eq_true_eq]at hx ⊢
      omega
     ·have:((w.toNat:Nat):Int)=w:=by omega
      rw[this];simp
     ·have:((w.toNat:Nat):Int)=w:=by omega
      rw[this];simp;omega
    have:=ih w hw0.1 hw0.2 (by omega)
    rw[Int.natCast_succ,Int.add_mul,Int.one_mul]
    omega
 intro v h0 h1
 refine key n v h0 h1 ?_
 have:=List.countP_le_length (p:=λi=>decide (s ((i:Nat):Int)<s v)) (l:=List.range n)
 rw[List.length_range]at this
 exact this
theorem aO4 {n:Nat} {es:List E} (hes:∀ e∈es,EOk n e) (hj:Joined n es) {q:Int} (hq:0<=q/\q<n) {s:Int->Int} {c:Int} (hc:0<=c) (hsq:s q<=0)
  (h:∀ v:Int,0<=v->v<n->0<s v->lap es s v<=c):∀ v:Int,0<=v->v<n->s v<=n*(n*c):=by
 refine aTq hes hj hq (Int.mul_nonneg (by omega) hc) hsq ?_
 intro t ht
 rw[<-aMd]
 apply aN2
 intro i hi
 unfold ind
 by_cases hx:t<=s i
 ·simp only[hx,decide_true,if_true,Int.one_mul]
  exact h i (by omega) (by omega) (by omega)
 ·simp only[hx,decide_false,Int.zero_mul,Bool.false_eq_true,if_false]
  exact hc
def aJa (v:Int) (e:E):Int:=if e.f0=v∨e.f1=v then 1 else 0
def val (es:List E) (v:Int):Int:=aHd es (aJa v)
def aEx (a b:Int) (e:E):Int:=if(e.f0=a/\e.f1=b)∨(e.f0=b/\e.f1=a) then 1 else 0
def mult (es:List E) (a b:Int):Int:=aHd es (aEx a b)
theorem aJ9 (es:List E) (v:Int):0<=val es v:=aGw λe _=>by unfold aJa;split<;>omega
theorem aEw (es:List E) (a b:Int):0<=mult es a b:=aGw λe _=>by unfold aEx;split<;>omega
theorem aQq {es:List E} {f:E->Int} (h:∀ e∈es,f e<=1):aHd es f<=es.length:=by
 induction es with
 | nil=>simp[aHd]
 | cons e r ih =>
  rw[aD0]
  have:=ih (λx hx=>h x (List.mem_cons_of_mem _ hx))
  have:=h e List.mem_cons_self
  simp only[List.length_cons]
  omega
theorem aM8 (es:List E) (v:Int):val es v<=es.length:=aQq λe _=>by unfold aJa;split<;>omega
theorem aJk (es:List E) (a b:Int):mult es a b<=es.length:=aQq λe _=>by unfold aEx;split<;>omega
theorem aHi {n:Int} {es:List E} (hes:∀ e∈es,EOk n e) (v t:Int):lap es (one v t) v=t*val es v:=by
 unfold lap val
 rw[<-aQp]
 apply aGr
 intro e he
 have hk:=hes e he
 unfold EOk at hk
 unfold aHx aJa one
 by_cases a:e.f0=v
 ·have b:¬ e.f1=v:=by omega
  simp[a,b]
 ·by_cases b:e.f1=v
  ·simp[a,b]
  ·simp[a,b]
theorem aS3 {n:Int} {es:List E} (hes:∀ e∈es,EOk n e) {v w:Int} (hvw:w≠v) (t:Int):lap es (one v t) w=- (t*mult es v w):=by
 unfold lap mult
 rw[<-aQp,<-aQo]
 apply aGr
 intro e he
 have hk:=hes e he
 unfold EOk at hk
 unfold aHx aEx one
 by_cases a:e.f0=w
 ·have b:¬ e.f1=w:=by omega
  have c:¬ e.f0=v:=by omega
  by_cases x:e.f1=v
  ·simp[a,x];omega
  ·simp[a,b,x,hvw]
 ·by_cases b:e.f1=w
  ·have c:¬ e.f1=v:=by omega
   by_cases x:e.f0=v
   ·simp[a,b,x];omega
   ·simp[a,b,x,hvw]
  ·simp[a,b]
theorem aTd {n:Nat} {es:List E} (hj:Joined n es) {q v:Int} (hq:0<=q/\q<n) (hv:0<=v/\v<n) (hne:v≠q):0<val es v:=by
 have hc:aGp es q v:=((hj q hq.1 hq.2).symm).trans (hj v hv.1 hv.2)
 obtain⟨u,w,⟨e,he,hx⟩,hu,hw⟩:=aJm (S:=λx=>x=v) hc (λh=>hne h.symm) rfl
 subst hu
 have h1:=aIr (f:=aJa u) (λe _=>by unfold aJa;split<;>omega) he
 have h2:aJa u e=1:=by
  unfold aJa
  rw[if_pos]
  rcases hx with ⟨a,_⟩|⟨_,b⟩
  ·exact .inl a
  ·exact .inr b
 unfold val
 omega
inductive aFs (n:Nat) (es:List E) (q:Int) (p:Int->Int):(Int->Int)->Prop
 | zero:aFs n es q p (λ_=>0)
 | step {s:Int->Int} {v:Int}:aFs n es q p s->0<=v->v<n->v≠q->val es v<=p v-lap es s v->aFs n es q p (λw=>s w+one v 1 w)
def Stable (n:Nat) (es:List E) (q:Int) (d:Int->Int):Prop:=∀ v:Int,0<=v->v<n->v≠q->d v<val es v
theorem aLd {es:List E} {r:Int->Int} {v:Int} (h:∀ w,0<=r w) (hv:r v=0):lap es r v<=0:=by
 have:=aN3 (es:=es) (f:=aHx r v) (g:=λ_=>0) (λe _=>by
  unfold aHx
  have h0:=h e.f0
  have h1:=h e.f1
  by_cases a:e.f0=v
  ·by_cases b:e.f1=v
   ·simp[a,b]
   ·rw[if_pos a,if_neg b,a,hv];omega
  ·by_cases b:e.f1=v
   ·rw[if_neg a,if_pos b,b,hv];omega
   ·rw[if_neg a,if_neg b];omega)
 rw[aGq (λ_ _=>rfl)]at this
 exact this
theorem aFs.aL7 {n:Nat} {es:List E} {q:Int} {p s:Int->Int} (h:aFs n es q p s):(∀ w,0<=s w)/\s q=0:=by
 induction h with
 | zero=>exact⟨λ_=>Int.le_refl _,rfl⟩
 | @step s v _ _ _ hq _ ih =>
  refine⟨λw=>?_,?_⟩
  ·have:=ih.1 w
   show 0<=s w+one v 1 w
   unfold one
   split<;>omega
  ·have:=ih.2
   show s q+one v 1 q=0
   unfold one
   rw[if_neg (λx:q=v=>hq x.symm)]
   omega
theorem aFs.least {n:Nat} {es:List E} {q:Int} {p s t:Int->Int} (h:aFs n es q p s) (ht:∀ w,0<=t w) (hst:Stable n es q (λv=>p v-lap es t v)):∀ w,s w<=t w:=by
 induction h with
 | zero=>exact ht
 | @step s v _ h0 h1 hq hv ih =>
  intro w
  show s w+one v 1 w<=t w
  unfold one
  by_cases e:w=v
  ·subst e
   rw[if_pos rfl]
   have:=ih w
   by_cases hlt:s w<t w
   ·omega
   ·exfalso
    have hle:=aLd (es:=es) (r:=λx=>t x-s x) (v:=w) (λx=>by have:=ih x;omega) (by omega)
    rw[aLc]at hle
    have:=hst w h0 h1 hq
    simp only at this
    omega
  ·rw[if_neg e]
   have:=ih w
   omega
theorem aFs.unique {n:Nat} {es:List E} {q:Int} {p s t:Int->Int} (hs:aFs n es q p s) (ht:aFs n es q p t) (ss:Stable n es q (λv=>p v-lap es s v)) (st:Stable n es q (λv=>p v-lap es t v)):s=t:=by
 funext w
 have:=hs.least ht.aL7.1 st w
 have:=ht.least hs.aL7.1 ss w
 omega
theorem aFs.many {n:Nat} {es:List E} (hes:∀ e∈es,EOk n e) {q:Int} {p s:Int->Int} (h:aFs n es q p s) {v:Int} (h0:0<=v) (h1:v<n) (hq:v≠q):∀ k:Nat,k*val es v<=p v-lap es s v->aFs n es q p (λw=>s w+one v k w)
 | 0,_=>by
  have:(λw=>s w+one v ((0:Nat):Int) w)=s:=by
   funext w
   unfold one
   split<;>simp
  rw[this]
  exact h
 | k+1,hk=>by
  have hv:=aJ9 es v
  rw[Int.natCast_succ,Int.add_mul]at hk
  have ih:=aFs.many hes h h0 h1 hq k (by omega)
  have:=aFs.step ih h0 h1 hq (by
   rw[aFt,aHi hes]
   omega)
  have e:(λw=>s w+one v ((k+1:Nat):Int) w)=λw=>s w+one v (k:Int) w+one v 1 w:=by
   funext w
   unfold one
   split<;>omega
  rw[e]
  exact this
end Cf
namespace P
def aCu.l0:Nat->Int->Int->List (S73)->Int->Int->Option (Int)
 | 0,_,_,_,_,_=>none
 | k+1,x1,x5,fQ,oO,mL=>if mL<oO then(if 0<=mL then(if mL<(fQ.length:Int) then(if((aA2 fQ mL).f0)=x1 then(aCu.l0 k x1 (wrap64 (x5+1)) fQ oO (wrap64 (mL+1))) else(if((aA2 fQ mL).f1)=x1 then(aCu.l0 k x1 (wrap64 (x5+1)) fQ oO (wrap64 (mL+1))) else(aCu.l0 k x1 x5 fQ oO (wrap64 (mL+1))))) else(none)) else(none)) else(some x5)
def aCu.f (k:Nat) (aE:Int) (aC:List (S73)) (a1:Int):Option (Int):=(aDh.f aE aC a1).bind λaX=>(if aX=true then(aCu.l0 k a1 0 aC (aC.length:Int) 0) else(some 0))
theorem aCu.aBa:∀ k,(∀ y0 y1 y2 y3 y4,LeO (aCu.l0 k y0 y1 y2 y3 y4) (aCu.l0 (k+1) y0 y1 y2 y3 y4))
 | 0=>λ_ _ _ _ _ r h=>by simp[aCu.l0]at h
 | k+1=>by
  have ih0:=aCu.aBa k
  ·intro y0 y1 y2 y3 y4
   unfold aCu.l0
   exact zm0
theorem aCu.mono:∀ a0 a1 a2 k,LeO (aCu.f k a0 a1 a2) (aCu.f (k+1) a0 a1 a2):=by
 intro a0 a1 a2 k;have ih0:=aCu.aBa k;unfold aCu.f;exact zm0
end P
namespace Cf
open P
def dOk (n:Int) (es:List E) (d:List Int):Bool:=gOk n es&&(decide ((d.length:Int)=n)&&decide (∀ x∈d,-60<=x/\x<=60))
theorem aJp {n:Int} {es:List E} {d:List Int}:dOk n es d=true↔GOk n es/\(d.length:Int)=n/\∀ x∈d,-60<=x/\x<=60:=by
 unfold dOk
 simp only[Bool.and_eq_true,decide_eq_true_eq,aEp]
theorem aUi (n:Int) (es:List E) (d:List Int) (hl:d.length<=1048576):Ep (λk=>aC7.f k n es d) (·=dOk n es d):=by
 simp only[aC7.f,dOk]
 refine Ep.aEu (aHk n es) (Ep.ite (λhg=>?_) (λhg=>Ep.now ?_))
 ·refine Ep.ite (λh=>?_) (λh=>Ep.now ?_)
  ·refine Ep.bind (aK4 d (-60) 60 hl) ?_
   rintro _ rfl
   refine Ep.now ?_
   rw[hg]
   simp only[h,decide_true,Bool.true_and]
  ·simp[h]
 ·have:gOk n es=false:=by simpa using hg
  simp[this]
def bCb (n:Int) (es:List E) (v:Int):Int:=if 0<=v/\v<n then val es v else 0
theorem aWa {es:List E} {i:Nat} (h:i<es.length) (v:Int):val (es.drop i) v=aJa v es[i]+val (es.drop (i+1)) v:=by
 rw[List.drop_eq_getElem_cons h]
 exact aD0 _ _ _
theorem aOo (v:Int) (es:List E) (hl:es.length<=1048576):∀ (d i:Nat) (a:Int),i+d=es.length->0<=a->a<=i->Ep (λk=>aAy.l0 k v a es (es.length:Int) (i:Int)) (·=a+val (es.drop i) v):=by
 intro d
 induction d with
 | zero =>
  intro i a hi h0 ha
  refine Ep.up ?_
  simp only[aAy.l0]
  refine Ep.neg (by omega) (Ep.now ?_)
  rw[List.drop_of_length_le (by omega)]
  simp[val,aHd]
 | succ d ih =>
  intro i a hi h0 ha
  have hlt:i<es.length:=by omega
  refine Ep.up ?_
  simp only[aAy.l0]
  refine Ep.pos (by omega) (Ep.pos (by omega) (Ep.pos (by omega) ?_))
  rw[aF4 hlt,wrap_succ (by omega),aCv (x:=a+1) (by omega) (by omega),aWa hlt]
  refine Ep.ite (λh=>?_) (λh=>Ep.ite (λh2=>?_) (λh2=>?_))
  ·refine(ih (i+1) (a+1) (by omega) (by omega) (by omega)).mono ?_
   rintro _ rfl
   unfold aJa
   rw[if_pos (.inl h)]
   omega
  ·refine(ih (i+1) (a+1) (by omega) (by omega) (by omega)).mono ?_
   rintro _ rfl
   unfold aJa
   rw[if_pos (.inr h2)]
   omega
  ·refine(ih (i+1) a (by omega) h0 (by omega)).mono ?_
   rintro _ rfl
   unfold aJa
   rw[if_neg (by rintro (x|x);exact h x;exact h2 x)]
   omega
theorem aIg (n:Int) (es:List E) (v:Int) (hl:es.length<=1048576):Ep (λk=>aAy.f k n es v) (·=bCb n es v):=by
 simp only[aAy.f,bCb]
 refine Ep.ite (λh=>?_) (λh=>?_)
 ·refine Ep.up ?_
  simp only[aAy.j0]
  refine Ep.pos trivial (Ep.now ?_)
  rw[if_neg (by omega)]
 ·refine Ep.up ?_
  simp only[aAy.j0]
  refine Ep.ite (λh2=>Ep.now ?_) (λh2=>?_)
  ·have:v≥n:=by simpa using h2
   rw[if_neg (by omega)]
  ·have:¬ v≥n:=by simpa using h2
   refine(aOo v es hl es.length 0 0 (by omega) (by omega) (by omega)).mono ?_
   rintro _ rfl
   rw[if_pos (by omega),List.drop_zero]
   omega
end Cf
namespace Cf
def aDw (es:List E) (b:List Int) (v:Int):Int:=(b.map (mult es v)).sum
inductive aNq (n:Nat) (es:List E) (d:Int->Int) (q:Int):List Int->Prop
 | start:aNq n es d q [q]
 | step {b:List Int} {v:Int}:aNq n es d q b->0<=v->v<n->v∉b->d v<aDw es b v->aNq n es d q (b++[v])
theorem aNq.ok {n:Nat} {es:List E} {d:Int->Int} {q:Int} {b:List Int} (hq:0<=q/\q<n) (h:aNq n es d q b):b.Nodup/\(∀ v∈b,0<=v/\v<n)/\q∈b:=by
 induction h with
 | start=>exact⟨by simp,λv hv=>by rw[List.mem_singleton.1 hv];exact hq,by simp⟩
 | @step b v _ h0 h1 hv _ ih =>
  refine⟨?_,λx hx=>?_,List.mem_append_left _ ih.2.2⟩
  ·rw[List.nodup_append]
   exact⟨ih.1,by simp,λa ha c hc=>by
    rw[List.mem_singleton.1 hc]
    rintro rfl
    exact hv ha⟩
  ·rcases List.mem_append.1 hx with hx|hx
   ·exact ih.2.1 x hx
   ·rw[List.mem_singleton.1 hx]
    exact⟨h0,h1⟩
theorem aNq.len {n:Nat} {es:List E} {d:Int->Int} {q:Int} {b:List Int} (hq:0<=q/\q<n) (h:aNq n es d q b):b.length<=n:=aEt n b (h.ok hq).1 (h.ok hq).2.1
theorem aKw (x:Int):∀ (b:List Int),b.Nodup->(b.map (λw=>if x=w then (1:Int) else 0)).sum=if x∈b then 1 else 0
 | [],_=>by simp
 | a::r,h=>by
  have ih:=aKw x r (List.nodup_cons.1 h).2
  have hn:=(List.nodup_cons.1 h).1
  simp only[List.map_cons,List.sum_cons,ih,List.mem_cons]
  by_cases e:x=a
  ·subst e
   simp[hn]
  ·simp[e]
theorem aQk (b:List Int):(b.map (λ_=>(0:Int))).sum=0:=by
 induction b with
 | nil=>rfl
 | cons a r ih=>simp only[List.map_cons,List.sum_cons,ih];rfl
theorem sum_add (b:List Int) (f g:Int->Int):(b.map (λw=>f w+g w)).sum=(b.map f).sum+(b.map g).sum:=by
 induction b with
 | nil=>rfl
 | cons a r ih=>simp only[List.map_cons,List.sum_cons,ih];omega
theorem aIj {n:Int} {es:List E} (hes:∀ e∈es,EOk n e) {b:List Int} (hb:b.Nodup) {v:Int} (hv:v∉b):aDw es b v=lap es (ind (λx=>decide (x∉b))) v:=by
 induction es with
 | nil =>
  unfold aDw
  rw[aU7]
  exact aQk b
 | cons e r ih =>
  have ih:=ih (λx hx=>hes x (List.mem_cons_of_mem _ hx))
  have hk:=hes e List.mem_cons_self
  unfold EOk at hk
  have h1:aDw (e::r) b v=(b.map (λw=>aEx v w e)).sum+aDw r b v:=by
   unfold aDw
   rw[<-sum_add]
   congr 1
  rw[h1,ih,aH0]
  congr 1
  unfold aHx ind aEx
  by_cases a:e.f0=v
  ·have c:¬ e.f1=v:=by omega
   have key:(b.map (λw=>if(e.f0=v/\e.f1=w)∨(e.f0=w/\e.f1=v) then (1:Int) else 0)).sum=if e.f1∈b then 1 else 0:=by
    rw[<-aKw e.f1 b hb]
    congr 1
    apply List.map_congr_left
    intro w _
    simp[a,c]
   rw[key,if_pos a,if_neg c,a]
   by_cases m:e.f1∈b<;>simp[m,hv]
  ·by_cases c:e.f1=v
   ·have key:(b.map (λw=>if(e.f0=v/\e.f1=w)∨(e.f0=w/\e.f1=v) then (1:Int) else 0)).sum=if e.f0∈b then 1 else 0:=by
     rw[<-aKw e.f0 b hb]
     congr 1
     apply List.map_congr_left
     intro w _
     simp[a,c]
    rw[key,if_neg a,if_pos c,c]
    by_cases m:e.f0∈b<;>simp[m,hv]
   ·have key:(b.map (λw=>if(e.f0=v/\e.f1=w)∨(e.f0=w/\e.f1=v) then (1:Int) else 0)).sum=0:=by
     exact(congrArg List.sum (List.map_congr_left (g:=λ_=>(0:Int)) (λw _=>by simp[a,c]))).trans (aQk b)
    rw[key,if_neg a,if_neg c]
    rfl
theorem aOk {es:List E} {S T:Int->Bool} {v:Int} (hv:S v=true) (hw:T v=true) (h:∀ x,S x=true->T x=true):lap es (ind T) v<=lap es (ind S) v:=by
 apply aN3
 intro e _
 have h0:=h e.f0
 have h1:=h e.f1
 unfold aHx ind
 by_cases a:e.f0=v
 ·by_cases b:e.f1=v
  ·simp[a,b]
  ·rw[if_pos a,if_pos a,if_neg b,if_neg b,a,hv,hw]
   cases hs:S e.f1<;>cases ht:T e.f1<;>simp_all
 ·by_cases b:e.f1=v
  ·rw[if_neg a,if_neg a,if_pos b,if_pos b,b,hv,hw]
   cases hs:S e.f0<;>cases ht:T e.f0<;>simp_all
  ·rw[if_neg a,if_neg a,if_neg b,if_neg b]
   exact Int.le_refl _
theorem aNq.meets {n:Nat} {es:List E} (hes:∀ e∈es,EOk n e) {d:Int->Int} {q:Int} (hq:0<=q/\q<n) {b:List Int} (h:aNq n es d q b) {S:Int->Bool} (hS:S q=false):(∀ v∈b,S v=false)∨∃ v:Int,0<=v/\v<n/\S v=true/\d v<lap es (ind S) v:=by
 induction h with
 | start=>exact .inl (λv hv=>by rw[List.mem_singleton.1 hv];exact hS)
 | @step b v hb h0 h1 hv hlt ih =>
  rcases ih with ih|ih
  ·by_cases hx:S v=true
   ·right
    refine⟨v,h0,h1,hx,?_⟩
    rw[aIj hes (hb.ok hq).1 hv]at hlt
    have:=aOk (es:=es) (S:=S) (T:=λx=>decide (x∉b)) hx (by simpa using hv) (λx hx=>by
     simp only[decide_eq_true_eq]
     intro hm
     rw[ih x hm]at hx
     cases hx)
    omega
   ·left
    intro x hm
    rcases List.mem_append.1 hm with hm|hm
    ·exact ih x hm
    ·rw[List.mem_singleton.1 hm]
     simpa using hx
  ·exact .inr ih
theorem aNq.red {n:Nat} {es:List E} (hes:∀ e∈es,EOk n e) {d:Int->Int} {q:Int} (hq:0<=q/\q<n) {b:List Int} (h:aNq n es d q b) (hl:b.length=n) (hd:∀ v:Int,0<=v->v<n->v≠q->0<=d v):Red n es q d:=by
 refine⟨hd,λS hS hx=>?_⟩
 rcases h.meets hes hq hS with hb|hb
 ·exfalso
  obtain⟨v,h0,h1,hv⟩:=hx
  have:v∈b:=by
   apply Classical.byContradiction
   intro hn
   have:=aEt n (v::b) (List.nodup_cons.2 ⟨hn,(h.ok hq).1⟩) (λx hx=>by
    rcases List.mem_cons.1 hx with rfl|hx
    ·exact⟨h0,h1⟩
    ·exact(h.ok hq).2.1 x hx)
   simp at this
   omega
  rw[hb v this]at hv
  cases hv
 ·exact hb
theorem Red.bHc {n:Nat} {es:List E} (hes:∀ e∈es,EOk n e) {d:Int->Int} {q:Int} (hq:0<=q/\q<n) {b:List Int} (h:aNq n es d q b) (hr:Red n es q d) (hl:b.length<n):∃ v:Int,0<=v/\v<n/\v∉b/\d v<aDw es b v:=by
 have hok:=h.ok hq
 have hex:∃ v:Int,0<=v/\v<n/\v∉b:=by
  apply Classical.byContradiction
  intro hc
  have:=aIx n b (λi hi=>by
   apply Classical.byContradiction
   intro hm
   exact hc ⟨i,by omega,by omega,hm⟩)
  omega
 obtain⟨v,h0,h1,hv,hlt⟩:=hr.2 (λx=>decide (x∉b)) (by simpa using hok.2.2) (by obtain⟨v,h0,h1,hv⟩:=hex;exact⟨v,h0,h1,by simpa using hv⟩)
 have hv':v∉b:=by simpa using hv
 exact⟨v,h0,h1,hv',by rw[aIj hes hok.1 hv'];exact hlt⟩
theorem aZz {es:List E} {f:E->Int} {S:Int} (h:∀ e∈es,-S<=f e/\f e<=S):-(es.length*S)<=aHd es f/\aHd es f<=es.length*S:=by
 induction es with
 | nil=>simp[aHd]
 | cons e r ih =>
  rw[aD0]
  have:=ih (λx hx=>h x (List.mem_cons_of_mem _ hx))
  have:=h e List.mem_cons_self
  rw[List.length_cons,Int.natCast_succ,Int.add_mul,Int.one_mul]
  omega
theorem aU8 {n:Int} {es:List E} (hes:∀ e∈es,EOk n e) (hel:es.length<=12) {s:Int->Int} {L S:Int} (hS:0<=S) (h:∀ v,0<=v->v<n->L<=s v/\s v<=L+S) (w:Int):-(12*S)<=lap es s w/\lap es s w<=12*S:=by
 have h1:=aZz (es:=es) (f:=aHx s w) (S:=S) (λe he=>by
  have hk:=hes e he
  unfold EOk at hk
  have h0:=h e.f0 (by omega) (by omega)
  have h1:=h e.f1 (by omega) (by omega)
  unfold aHx
  by_cases a:e.f0=w
  ·rw[if_pos a,if_neg (by omega)];omega
  ·rw[if_neg a]
   by_cases b:e.f1=w
   ·rw[if_pos b];omega
   ·rw[if_neg b];omega)
 have h2:(es.length:Int)*S<=12*S:=Int.mul_le_mul_of_nonneg_right (by omega) hS
 unfold lap
 omega
theorem aG3 {n:Nat} {f:Nat->Int} {c:Int} (h:∀ i,i<n->f i<=c):aEg n f<=n*c:=by
 rw[<-aMd]
 exact aN2 h
theorem aKx {n:Nat} {f:Nat->Int} (h:∀ i,i<n->0<=f i):0<=aEg n f:=by
 have:=aN2 (n:=n) (f:=λ_=>0) (g:=f) h
 rw[aEr]at this
 exact this
theorem bAe (v t:Int) (i:Nat):one v t (i:Int)=if(i:Int)=v then t else 0:=rfl
theorem aNv {n:Nat} {v:Int} (h0:0<=v) (h1:v<n) (t:Int):aEg n (λi=>one v t (i:Int))=t:=by
 have:=aIq (n:=n) v.toNat (by omega) t
 refine(aDg λi _=>?_).trans this
 rw[bAe]
 have:((i:Int)=v)↔i=v.toNat:=by omega
 simp only[this]
theorem aFs.bDt {n:Nat} {es:List E} (hes:∀ e∈es,EOk n e) {q:Int} {p s:Int->Int} (h:aFs n es q p s):∀ v:Int,0<=v->v<n->0<s v->0<=p v-lap es s v:=by
 induction h with
 | zero=>intro v _ _ h;exact absurd h (by simp)
 | @step s u hl h0 h1 hq hv ih =>
  intro w k0 k1 hs
  rw[aFt]
  by_cases e:w=u
  ·subst e
   rw[aHi hes]
   omega
  ·rw[aS3 hes e]
   have:=aEw es u w
   have:=ih w k0 k1 (by
    have hs':0<s w+one u 1 w:=hs
    unfold one at hs'
    rw[if_neg e]at hs'
    omega)
   omega
theorem aFs.bEv {n:Nat} {es:List E} (hes:∀ e∈es,EOk n e) (hj:Joined n es) {q:Int} (hq:0<=q/\q<n) {p s:Int->Int} (h:aFs n es q p s) {c:Int} (hc:0<=c) (hpc:∀ v:Int,0<=v->v<n->v≠q->p v<=c):∀ v:Int,0<=v->v<n->s v<=n*(n*c):=by
 refine aO4 hes hj hq hc (by rw[h.aL7.2];exact Int.le_refl _) ?_
 intro v h0 h1 hs
 have hne:v≠q:=by rintro rfl;rw[h.aL7.2]at hs;omega
 have:=h.bDt hes v h0 h1 hs
 have:=hpc v h0 h1 hne
 omega
theorem bD8 {n:Nat} (hn:n<=6) {c:Int} (hc:0<=c):(n:Int)*(n*c)<=36*c:=by
 have h1:(n:Int)*c<=6*c:=Int.mul_le_mul_of_nonneg_right (by omega) hc
 have h2:(n:Int)*(n*c)<=n*(6*c):=Int.mul_le_mul_of_nonneg_left h1 (by omega)
 have h3:(n:Int)*(6*c)<=6*(6*c):=Int.mul_le_mul_of_nonneg_right (by omega) (by omega)
 omega
theorem aFs.small {n:Nat} (hn:n<=6) {es:List E} (hes:∀ e∈es,EOk n e) (hj:Joined n es) {q:Int} (hq:0<=q/\q<n) {p s:Int->Int} (h:aFs n es q p s) {c:Int} (hc:0<=c) (hpc:∀ v:Int,0<=v->v<n->v≠q->p v<=c) :
  (∀ v:Int,0<=v->v<n->0<=s v/\s v<=36*c)/\aEg n (λi=>s (i:Int))<=216*c:=by
 have h36:=bD8 hn hc
 have hb:∀ v:Int,0<=v->v<n->0<=s v/\s v<=36*c:=λv h0 h1=>by
  have:=h.bEv hes hj hq hc hpc v h0 h1
  have:=h.aL7.1 v
  omega
 refine⟨hb,?_⟩
 have h1:=aG3 (n:=n) (f:=λi=>s (i:Int)) (c:=36*c) (λi hi=>(hb i (by omega) (by omega)).2)
 have h2:(n:Int)*(36*c)<=6*(36*c):=Int.mul_le_mul_of_nonneg_right (by omega) (by omega)
 omega
theorem aWe {n:Nat} {s:Int->Int} {v:Int} (h0:0<=v) (h1:v<n) (t:Int):aEg n (λi=>(λw=>s w+one v t w) (i:Int))=aEg n (λi=>s (i:Int))+t:=by
 rw[aFm n (λi=>s (i:Int)) (λi=>one v t (i:Int)),aNv h0 h1]
def bH4 (es:List E) (d:Int->Int) (v:Int):Int:=val es v-1-d v
structure Sets (n:Nat) (es:List E) (q:Int) (d u:Int->Int):Prop where
 pos:∀ w,0<=u w
 aYw:u q=0
 keeps:∀ v:Int,0<=v->v<n->v≠q->0<=d v-lap es u v
theorem Sets.zero {n:Nat} {es:List E} {q:Int} {d:Int->Int} (h:∀ v:Int,0<=v->v<n->v≠q->0<=d v):Sets n es q d (λ_=>0) where
 pos:=λ_=>Int.le_refl _
 aYw:=rfl
 keeps:=λv h0 h1 h2=>by
  rw[aHj (c:=0) (λ_ _=>⟨rfl,rfl⟩)]
  have:=h v h0 h1 h2
  omega
theorem Sets.small {n:Nat} (hn:n<=6) {es:List E} (hes:∀ e∈es,EOk n e) (hj:Joined n es) {q:Int} (hq:0<=q/\q<n) {d u:Int->Int} (h:Sets n es q d u) {c:Int} (hc:0<=c) (hpc:∀ v:Int,0<=v->v<n->v≠q->d v<=c) :
  (∀ v:Int,0<=v->v<n->0<=u v/\u v<=36*c)/\aEg n (λi=>u (i:Int))<=216*c:=by
 have h36:=bD8 hn hc
 have hb:∀ v:Int,0<=v->v<n->0<=u v/\u v<=36*c:=λv h0 h1=>by
  have:=aO4 hes hj hq hc (s:=u) (by rw[h.aYw];exact Int.le_refl _) (λv h0 h1 hs=>by
   have hne:v≠q:=by rintro rfl;rw[h.aYw]at hs;omega
   have:=h.keeps v h0 h1 hne
   have:=hpc v h0 h1 hne
   omega) v h0 h1
  have:=h.pos v
  omega
 refine⟨hb,?_⟩
 have h1:=aG3 (n:=n) (f:=λi=>u (i:Int)) (c:=36*c) (λi hi=>(hb i (by omega) (by omega)).2)
 have h2:(n:Int)*(36*c)<=6*(36*c):=Int.mul_le_mul_of_nonneg_right (by omega) (by omega)
 omega
def unb (b:List Int):Int->Int:=ind (λx=>decide (x∉b))
theorem aKv {b:List Int} {v:Int} (h:v∈b):unb b v=0:=by simp[unb,ind,h]
theorem aN0 {b:List Int} {v:Int} (h:v∉b):unb b v=1:=by simp[unb,ind,h]
theorem aJb (b:List Int) (v:Int):0<=unb b v:=by
 by_cases h:v∈b
 ·rw[aKv h];omega
 ·rw[aN0 h];omega
theorem Sets.step {n:Nat} {es:List E} (hes:∀ e∈es,EOk n e) {q:Int} (hq:0<=q/\q<n) {d u x:Int->Int} (h:Sets n es q d u) (hx:∀ v:Int,0<=v->v<n->x v=d v-lap es u v) {b:List Int} (hb:aNq n es x q b) (hc:∀ v:Int,0<=v->v<n->v∉b->aDw es b v<=x v) :
  Sets n es q d (λw=>u w+unb b w) where
 pos:=λw=>by have:=h.pos w;have:=aJb b w;show 0<=u w+unb b w;omega
 aYw:=by show u q+unb b q=0;rw[h.aYw,aKv (hb.ok hq).2.2];rfl
 keeps:=λv h0 h1 h2=>by
  rw[aFt]
  have:=h.keeps v h0 h1 h2
  have e:=hx v h0 h1
  by_cases hm:v∈b
  ·have:=aLd (es:=es) (r:=unb b) (v:=v) (aJb b) (aKv hm)
   omega
  ·have h3:=hc v h0 h1 hm
   rw[aIj hes (hb.ok hq).1 hm]at h3
   have:lap es (unb b) v=lap es (ind (λx=>decide (x∉b))) v:=rfl
   omega
theorem aNt {n:Nat} {b:List Int} (hl:b.length<n):∃ v:Int,0<=v/\v<n/\v∉b:=by
 apply Classical.byContradiction
 intro hc
 have:=aIx n b (λi hi=>by
  apply Classical.byContradiction
  intro hm
  exact hc ⟨i,by omega,by omega,hm⟩)
 omega
theorem aZy {n:Nat} {u:Int->Int} {b:List Int} (hex:∃ v:Int,0<=v/\v<n/\v∉b):aEg n (λi=>u (i:Int))+1<=aEg n (λi=>(λw=>u w+unb b w) (i:Int)):=by
 obtain⟨v,h0,h1,hm⟩:=hex
 rw[aFm n (λi=>u (i:Int)) (λi=>unb b (i:Int))]
 have:=aN1 (n:=n) (f:=λi=>unb b (i:Int)) (λi _=>aJb b _) v.toNat (by omega)
 have e:((v.toNat:Nat):Int)=v:=by omega
 simp only[e,aN0 hm]at this
 omega
def aGu (es:List E) (d:Int->Int) (b:List Int):Nat->Nat->Int
 | 0,_=>-1
 | k+1,i=>if(i:Int)∉b/\d i<aDw es b i then i else aGu es d b k (i+1)
theorem aKd (es:List E) (d:Int->Int) (b:List Int):∀ (k i:Nat),(aGu es d b k i=-1/\∀ j:Nat,i<=j->j<i+k->(j:Int)∉b->aDw es b j<=d j)∨((i:Int)<=aGu es d b k i/\aGu es d b k i<i+k/\aGu es d b k i∉b/\d (aGu es d b k i)<aDw es b (aGu es d b k i))
 | 0,i=>.inl ⟨rfl,λj h0 h1=>by omega⟩
 | k+1,i=>by
  unfold aGu
  by_cases h:(i:Int)∉b/\d i<aDw es b i
  ·rw[if_pos h]
   exact .inr ⟨by omega,by omega,h.1,h.2⟩
  ·rw[if_neg h]
   rcases aKd es d b k (i+1) with ⟨h1,h2⟩|⟨h1,h2,h3⟩
   ·refine .inl ⟨h1,λj h3 h4 h5=>?_⟩
    by_cases e:j=i
    ·subst e
     apply Classical.byContradiction
     intro hc
     exact h ⟨h5,by omega⟩
    ·exact h2 j (by omega) (by omega) h5
   ·exact .inr ⟨by omega,by omega,h3⟩
def aP0 (n:Nat) (es:List E) (d:Int->Int):Nat->List Int->List Int
 | 0,b=>b
 | k+1,b=>if aGu es d b n 0<0 then b else aP0 n es d k (b++[aGu es d b n 0])
def aLp (n:Nat) (es:List E) (d:Int->Int) (q:Int):List Int:=aP0 n es d n [q]
def aQe (n:Nat) (es:List E) (d:Int->Int) (b:List Int):Prop:=∀ v:Int,0<=v->v<n->v∉b->aDw es b v<=d v
theorem aOb {n:Nat} {es:List E} {d:Int->Int} {b:List Int} (h:aGu es d b n 0<0):aQe n es d b:=by
 rcases aKd es d b n 0 with ⟨_,h2⟩|⟨h1,_⟩
 ·intro v h0 h1 hm
  have e:((v.toNat:Nat):Int)=v:=by omega
  have:=h2 v.toNat (by omega) (by omega) (by rw[e];exact hm)
  rw[e]at this
  exact this
 ·omega
theorem aRd {n:Nat} {es:List E} {d:Int->Int} {q:Int} (hq:0<=q/\q<n):∀ (k:Nat) (b:List Int),n+1<=b.length+k->aNq n es d q b->aNq n es d q (aP0 n es d k b)/\aQe n es d (aP0 n es d k b)
 | 0,b,hl,h=>by have:=h.len hq;omega
 | k+1,b,hl,h=>by
  unfold aP0
  by_cases hc:aGu es d b n 0<0
  ·rw[if_pos hc]
   exact⟨h,aOb hc⟩
  ·rw[if_neg hc]
   rcases aKd es d b n 0 with ⟨h1,_⟩|⟨h1,h2,h3,h4⟩
   ·omega
   ·exact aRd hq k _ (by simp;omega) (h.step (by omega) (by omega) h3 h4)
theorem aNl {n:Nat} {es:List E} {d:Int->Int} {q:Int} (hq:0<=q/\q<n):aNq n es d q (aLp n es d q)/\aQe n es d (aLp n es d q):=aRd hq n [q] (by simp;omega) .start
def aY2 (n:Nat) (es:List E) (q:Int) (d x s:Int->Int):Prop:=Red n es q x/\s q=0/\∀ v:Int,0<=v->v<n->x v=d v-lap es s v
theorem aY2.unique {n:Nat} {es:List E} (hes:∀ e∈es,EOk n e) {q:Int} (hq:0<=q/\q<n) {d x s x' s':Int->Int} (h:aY2 n es q d x s) (h':aY2 n es q d x' s'):∀ v:Int,0<=v->v<n->x v=x' v/\s v=s' v:=by
 have hu:=aMe hes hq h.1 h'.1 (s:=λv=>s' v-s v) (λv h0 h1=>by
  rw[aLc,h.2.2 v h0 h1,h'.2.2 v h0 h1]
  omega)
 intro v h0 h1
 have h2:=hu.1 v h0 h1
 simp only[h.2.1,h'.2.1]at h2
 exact⟨(hu.2 v h0 h1).symm,by omega⟩
theorem Red.lt {n:Nat} {es:List E} (hes:∀ e∈es,EOk n e) {q:Int} {d:Int->Int} (h:Red n es q d) {v:Int} (h0:0<=v) (h1:v<n) (hv:v≠q):0<=d v/\d v<val es v:=by
 refine⟨h.1 v h0 h1 hv,?_⟩
 obtain⟨w,_,_,hw,hlt⟩:=h.2 (λx=>decide (x=v)) (by simpa using λe=>hv e.symm) ⟨v,h0,h1,by simp⟩
 obtain rfl:w=v:=by simpa using hw
 have e:ind (λx=>decide (x=w))=one w 1:=by
  funext x
  unfold ind one
  by_cases c:x=w<;>simp[c]
 rw[e,aHi hes]at hlt
 omega
theorem Red.aYw {n:Nat} (hn:n<=6) {es:List E} (hes:∀ e∈es,EOk n e) (hel:es.length<=12) {q:Int} (hq:0<=q/\q<n) {d:Int->Int} (h:Red n es q d):aEg n (λi=>d (i:Int))-72<=d q/\d q<=aEg n (λi=>d (i:Int)):=by
 have hf:∀ i:Nat,i<n->0<=d i-one q (d q) i/\d i-one q (d q) i<=12:=by
  intro i hi
  unfold one
  by_cases e:(i:Int)=q
  ·rw[if_pos e,e];omega
  ·rw[if_neg e]
   have:=h.lt hes (v:=i) (by omega) (by omega) e
   have:=aM8 es i
   omega
 have h1:aEg n (λi=>d (i:Int))=aEg n (λi=>d i-one q (d q) i)+d q:=by
  have:=aFm n (λi=>d i-one q (d q) i) (λi=>one q (d q) i)
  rw[aNv hq.1 hq.2]at this
  rw[<-this]
  apply aDg
  intro i _
  omega
 have h2:=aKx (n:=n) (λi hi=>(hf i hi).1)
 have h3:=aG3 (n:=n) (λi hi=>(hf i hi).2)
 omega
theorem aL5 {x:List Int} {i:Int} (h0:0<=i) (h1:i<x.length) (y:Int) {w:Int} (hw:0<=w):rd (x.set i.toNat y) w=if w=i then y else rd x w:=by
 obtain⟨a,rfl⟩:=Int.eq_ofNat_of_zero_le h0
 obtain⟨b,rfl⟩:=Int.eq_ofNat_of_zero_le hw
 simp only[Int.ofNat_eq_natCast,Int.toNat_natCast,aTy,zdG]at *
 by_cases c:b=a
 ·subst c
  rw[List.getElem?_set_self (by omega),if_pos rfl]
  rfl
 ·rw[List.getElem?_set_ne (λy=>c y.symm),if_neg (by omega)]
def Bd (x:List Int) (B:Int):Prop:=∀ w:Int,0<=w->w<x.length→-B<=rd x w/\rd x w<=B
theorem Bd.mono {x:List Int} {B B':Int} (h:Bd x B) (hB:B<=B'):Bd x B':=λw h0 h1=>by have:=h w h0 h1;omega
theorem Bd.bI8 {p:List Int} (h:∀ x∈p,-60<=x/\x<=60):Bd p 60:=λw h0 h1=>by
 obtain⟨i,rfl⟩:=Int.eq_ofNat_of_zero_le h0
 have hi:i<p.length:=by omega
 rw[aEh hi]
 exact h _ (List.getElem_mem hi)
def Less (es:List E) (d:List Int) (s:Int->Int) (x:List Int):Prop:=x.length=d.length/\∀ w:Int,0<=w->w<d.length->rd x w=rd d w-lap es s w
theorem aX3 (es:List E) (e:E) (s:Int->Int) (w:Int):lap (es++[e]) s w=lap es s w+aHx s w e:=by
 induction es with
 | nil=>simp[lap,aHd]
 | cons a r ih=>rw[List.cons_append,aH0,ih,aH0];omega
theorem aX2 {es:List E} {i:Nat} (h:i<es.length) (s:Int->Int) (w:Int):lap (es.take (i+1)) s w=lap (es.take i) s w+aHx s w es[i]:=by
 rw[List.take_succ_eq_append_getElem h,aX3]
def Rep (n:Nat) (c:List Int) (s:Int->Int):Prop:=c.length=n/\∀ w:Int,0<=w->w<n->rd c w=s w
theorem Rep.ext {n:Nat} {c c':List Int} {s:Int->Int} (h:Rep n c s) (h':Rep n c' s):c=c':=by
 apply List.ext_getElem (by rw[h.1,h'.1])
 intro i h1 h2
 have e:=h.2 i (by omega) (by have:=h.1;omega)
 have e':=h'.2 i (by omega) (by have:=h.1;omega)
 rw[aEh h1]at e
 rw[aEh h2]at e'
 rw[e,e']
theorem Rep.congr {n:Nat} {c:List Int} {s t:Int->Int} (h:Rep n c s) (he:∀ w:Int,0<=w->w<n->s w=t w):Rep n c t:=⟨h.1,λw h0 h1=>(h.2 w h0 h1).trans (he w h0 h1)⟩
theorem Rep.self {n:Nat} {c:List Int} (h:c.length=n):Rep n c (rd c):=⟨h,λ_ _ _=>rfl⟩
theorem Rep.set {n:Nat} {c:List Int} {s:Int->Int} (h:Rep n c s) {v:Int} (h0:0<=v) (h1:v<n) (y:Int):Rep n (c.set v.toNat y) (λw=>if w=v then y else s w):=by
 refine⟨by rw[List.length_set];exact h.1,λw w0 w1=>?_⟩
 rw[aL5 h0 (by rw[h.1];exact h1) y w0,h.2 w w0 w1]
theorem aGg (n:Nat) (v:Int):rd (List.replicate n (0:Int)) v=0:=by
 unfold rd
 rw[zdG]
 by_cases h:v.toNat<n
 ·rw[List.getElem?_replicate_of_lt h];rfl
 ·rw[List.getElem?_eq_none (by simp;omega)];rfl
theorem Rep.zero (n:Nat):Rep n (List.replicate n (0:Int)) (λ_=>0):=⟨by simp,λw _ _=>aGg n w⟩
def aO5 (n:Nat) (f:Int->Int):List Int:=(List.range n).map λi:Nat=>f (i:Int)
theorem aKb (n:Nat) (f:Int->Int):(aO5 n f).length=n:=by simp[aO5]
theorem aG4 (n:Nat) (f:Int->Int):Rep n (aO5 n f) f:=by
 refine⟨by simp[aO5],λw h0 h1=>?_⟩
 obtain⟨a,rfl⟩:=Int.eq_ofNat_of_zero_le h0
 rw[aEh (by simp[aO5];omega)]
 simp[aO5]
theorem Rep.eq {n:Nat} {c:List Int} {s:Int->Int} (h:Rep n c s):c=aO5 n s:=h.ext (aG4 n s)
theorem Rep.mem {n:Nat} {c:List Int} {s:Int->Int} (h:Rep n c s) {x:Int} (hx:x∈c):∃ w:Int,0<=w/\w<n/\x=s w:=by
 obtain⟨i,hi,rfl⟩:=List.getElem_of_mem hx
 have:=h.1
 refine⟨i,by omega,by omega,?_⟩
 rw[<-h.2 i (by omega) (by omega),aEh hi]
theorem Rep.bd {n:Nat} {c:List Int} {s:Int->Int} {B:Int} (h:Rep n c s) (hb:∀ w:Int,0<=w->w<n→-B<=s w/\s w<=B):Bd c B:=λw h0 h1=>by
 rw[h.2 w h0 (by have:=h.1;omega)]
 exact hb w h0 (by have:=h.1;omega)
theorem Less.rep {n:Nat} {es:List E} {d x:List Int} {s:Int->Int} (hd:d.length=n) (h:Less es d s x):Rep n x (λw=>rd d w-lap es s w):=⟨h.1.trans hd,λw h0 h1=>h.2 w h0 (by omega)⟩
def aQ9 (n:Nat) (es:List E) (q:Int) (p:List Int) (r:List Int×List Int):Prop :=
 ∃ s:Int->Int,aFs n es q (rd p) s/\Stable n es q (λv=>rd p v-lap es s v)/\Rep n r.1 (λw=>if w=q then 0 else rd p w-lap es s w)/\Rep n r.2 s
theorem aQ9.unique {n:Nat} {es:List E} {q:Int} {p:List Int} {r r':List Int×List Int} (h:aQ9 n es q p r) (h':aQ9 n es q p r'):r=r':=by
 obtain⟨s,h1,h2,h3,h4⟩:=h
 obtain⟨t,k1,k2,k3,k4⟩:=h'
 obtain rfl:=h1.unique k1 h2 k2
 exact Prod.ext (h3.ext k3) (h4.ext k4)
def aF9 (n:Nat) (es:List E) (q:Int) (d:List Int) (r:List Int×List Int):Prop:=r.1.length=n/\r.2.length=n/\aY2 n es q (rd d) (rd r.1) (rd r.2)
theorem aF9.unique {n:Nat} {es:List E} (hes:∀ e∈es,EOk n e) {q:Int} (hq:0<=q/\q<n) {d:List Int} {r r':List Int×List Int} (h:aF9 n es q d r) (h':aF9 n es q d r'):r=r':=by
 have hu:=h.2.2.unique hes hq h'.2.2
 refine Prod.ext ?_ ?_
 ·exact(Rep.self h.1).ext ((Rep.self h'.1).congr λw h0 h1=>(hu w h0 h1).1.symm)
 ·exact(Rep.self h.2.1).ext ((Rep.self h'.2.1).congr λw h0 h1=>(hu w h0 h1).2.symm)
open Classical in
noncomputable def aF3 (n:Nat) (es:List E) (q:Int) (d:List Int):List Int×List Int:=if h:∃ r,aF9 n es q d r then Classical.choose h else([],[])
theorem aF9.eq {n:Nat} {es:List E} (hes:∀ e∈es,EOk n e) {q:Int} (hq:0<=q/\q<n) {d:List Int} {r:List Int×List Int} (h:aF9 n es q d r):r=aF3 n es q d:=by
 have he:∃ r,aF9 n es q d r:=⟨r,h⟩
 unfold aF3
 rw[dif_pos he]
 exact h.unique hes hq (Classical.choose_spec he)
theorem aI9:∀ (n:Nat) (c:List Int),c.length=n->c.sum=aEg n (λi=>rd c (i:Int))
 | 0,c,h=>by
  obtain rfl:=List.length_eq_zero_iff.1 h
  rfl
 | n+1,c,h=>by
  obtain⟨a,x,rfl⟩:∃ a x,c=a++[x]:=⟨c.dropLast,c.getLast (by rintro rfl;simp at h),(List.dropLast_concat_getLast _).symm⟩
  simp only[List.length_append,List.length_cons,List.length_nil,Nat.zero_add,Nat.add_right_cancel_iff]at h
  simp only[aEg,List.sum_append,List.sum_cons,List.sum_nil]
  rw[aI9 n a h]
  congr 1
  ·apply aDg
   intro i hi
   rw[aEh (show i<a.length by omega),aEh (show i<(a++[x]).length by simp;omega),List.getElem_append_left (by omega)]
  ·subst h
   rw[aEh (show a.length<(a++[x]).length by simp)]
   simp
theorem aPi {n:Int} {es:List E} {v:Int} (h:0<=v/\v<n):bCb n es v=val es v:=by
 unfold bCb
 rw[if_pos h]
def aH1 (q:Int) (p:List Int):Nat->Nat->Int
 | 0,_=>-1
 | d+1,i=>if(i:Int)=q then aH1 q p d (i+1) else if rd p i<0 then i else aH1 q p d (i+1)
theorem aNi (q:Int) (p:List Int):∀ (d i:Nat),(aH1 q p d i=-1/\∀ j:Nat,i<=j->j<i+d->(j:Int)≠q->0<=rd p (j:Int))∨((i:Int)<=aH1 q p d i/\aH1 q p d i<i+d/\aH1 q p d i≠q/\rd p (aH1 q p d i)<0)
 | 0,i=>.inl ⟨rfl,λj h0 h1=>by omega⟩
 | d+1,i=>by
  unfold aH1
  have ih:=aNi q p d (i+1)
  by_cases h:(i:Int)=q
  ·rw[if_pos h]
   rcases ih with ⟨h1,h2⟩|⟨h1,h2,h3⟩
   ·refine .inl ⟨h1,λj h3 h4 h5=>?_⟩
    by_cases e:j=i
    ·subst e;exact absurd h h5
    ·exact h2 j (by omega) (by omega) h5
   ·exact .inr ⟨by omega,by omega,h3⟩
  ·rw[if_neg h]
   by_cases h2:rd p i<0
   ·rw[if_pos h2]
    exact .inr ⟨by omega,by omega,h,h2⟩
   ·rw[if_neg h2]
    rcases ih with ⟨h1,h3⟩|⟨h1,h3,h4⟩
    ·refine .inl ⟨h1,λj k1 k2 k3=>?_⟩
     by_cases e:j=i
     ·subst e;omega
     ·exact h3 j (by omega) (by omega) k3
    ·exact .inr ⟨by omega,by omega,h4⟩
theorem aXr {n:Nat} {q:Int} {p:List Int} (hp:p.length=n) (h:aH1 q p p.length 0<0):∀ v:Int,0<=v->v<n->v≠q->0<=rd p v:=by
 intro v h0 h1 hv
 rcases aNi q p p.length 0 with ⟨_,h2⟩|⟨h2,_⟩
 ·have:=h2 v.toNat (by omega) (by omega) (by omega)
  have e:((v.toNat:Nat):Int)=v:=by omega
  rw[e]at this
  exact this
 ·omega
theorem aXq {n:Nat} {q:Int} {p:List Int} (hp:p.length=n) (h:¬ aH1 q p p.length 0<0):0<=aH1 q p p.length 0/\aH1 q p p.length 0<n/\aH1 q p p.length 0≠q/\rd p (aH1 q p p.length 0)<0:=by
 rcases aNi q p p.length 0 with ⟨h1,_⟩|⟨h1,h2,h3⟩
 ·omega
 ·exact⟨by omega,by omega,h3⟩
end Cf
namespace Cf
open P
theorem aPt (n:Nat) (es:List E) (hes:∀ e∈es,EOk n e) (hel:es.length<=12) (d:List Int) (v t:Int) (hd:d.length=n) (hv:0<=v/\v<n) {B K:Int} (hK:0<=K/\0<=B) (hbd:Bd d B) (ht:-K<=t/\t<=K) (hB:B+12*K<=4611686018427387904) :
  ∀ (k i:Nat) (x:List Int),i+k=es.length->Less (es.take i) d (one v t) x->Bd x (B+K*i)->Ep (λr=>aCc.l0 r x v t es (es.length:Int) (i:Int)) (λr=>Less es d (one v t) r/\Bd r (B+12*K)):=by
 intro k
 induction k with
 | zero =>
  intro i x hi hx hb
  obtain rfl:i=es.length:=by omega
  refine Ep.up ?_
  simp only[aCc.l0]
  refine Ep.neg (by omega) (Ep.now ⟨?_,hb.mono ?_⟩)
  ·rw[List.take_length]at hx
   exact hx
  ·have:K*(es.length:Int)<=K*12:=Int.mul_le_mul_of_nonneg_left (by omega) (by omega)
   omega
 | succ k ih =>
  intro i x hi hx hb
  have hlt:i<es.length:=by omega
  have he:=hes _ (List.getElem_mem hlt)
  unfold EOk at he
  have hxl:x.length=n:=hx.1.trans hd
  have bMj:K*(i:Int)<=K*12:=Int.mul_le_mul_of_nonneg_left (by omega) (by omega)
  have ba:=hb es[i].f0 (by omega) (by omega)
  have bb:=hb es[i].f1 (by omega) (by omega)
  have e1:K*((i+1:Nat):Int)=K*(i:Int)+K:=by
   rw[Int.natCast_add,Int.mul_add]
   omega
  have fin:∀ x':List Int,x'.length=x.length->(∀ w:Int,0<=w->w<n->rd x' w=rd x w-aHx (one v t) w es[i])->Ep (λr=>aCc.l0 r x' v t es (es.length:Int) ((i+1:Nat):Int)) (λr=>Less es d (one v t) r/\Bd r (B+12*K)):=by
   intro x' hl' key
   refine ih (i+1) _ (by omega) ⟨by rw[hl'];exact hx.1,?_⟩ ?_
   ·intro w h0 h1
    rw[key w h0 (by omega),hx.2 w h0 h1,aX2 hlt]
    omega
   ·intro w h0 h1
    have h1':w<n:=by omega
    rw[key w h0 h1',e1]
    have:=hb w h0 (by omega)
    unfold aHx one
    (repeat' split)<;>omega
  refine Ep.up ?_
  simp only[aCc.l0]
  refine Ep.pos (by omega) (Ep.pos (by omega) (Ep.pos (by omega) ?_))
  rw[aF4 hlt,wrap_succ (by omega)]
  refine Ep.ite (λc=>?_) (λc=>Ep.ite (λc2=>?_) (λc2=>?_))
  ·subst c
   refine Ep.pos (by omega) (Ep.pos (by omega) (Ep.aEu rfl (Ep.pos (by omega) (Ep.pos (by omega) ?_))))
   rw[aL5 (x:=x) (by omega) (by omega) _ (w:=es[i].f1) (by omega),if_neg (by omega),aCv (x:=rd x es[i].f0-t) (by omega) (by omega),aCv (x:=rd x es[i].f1+t) (by omega) (by omega)]
   refine fin _ (by simp) ?_
   intro w h0 h1
   rw[aL5 (by omega) (by rw[List.length_set];omega) _ h0,aL5 (by omega) (by omega) _ h0]
   unfold aHx one
   by_cases c1:w=es[i].f1
   ·subst c1;(repeat' split)<;>omega
   ·by_cases c0:w=es[i].f0
    ·subst c0;(repeat' split)<;>omega
    ·(repeat' split)<;>omega
  ·subst c2
   refine Ep.pos (by omega) (Ep.pos (by omega) (Ep.aEu rfl (Ep.pos (by omega) (Ep.pos (by omega) ?_))))
   rw[aL5 (x:=x) (by omega) (by omega) _ (w:=es[i].f0) (by omega),if_neg (by omega),aCv (x:=rd x es[i].f1-t) (by omega) (by omega),aCv (x:=rd x es[i].f0+t) (by omega) (by omega)]
   refine fin _ (by simp) ?_
   intro w h0 h1
   rw[aL5 (by omega) (by rw[List.length_set];omega) _ h0,aL5 (by omega) (by omega) _ h0]
   unfold aHx one
   by_cases c1:w=es[i].f1
   ·subst c1;(repeat' split)<;>omega
   ·by_cases c0:w=es[i].f0
    ·subst c0;(repeat' split)<;>omega
    ·(repeat' split)<;>omega
  ·refine fin x rfl ?_
   intro w h0 h1
   unfold aHx one
   (repeat' split)<;>omega
theorem aR6 (n:Nat) (es:List E) (hes:∀ e∈es,EOk n e) (hel:es.length<=12) (d:List Int) (v t:Int) (hd:d.length=n) (hv:0<=v/\v<n) {B K:Int} (hK:0<=K/\0<=B) (hbd:Bd d B) (ht:-K<=t/\t<=K) (hB:B+12*K<=4611686018427387904) :
  Ep (λr=>aCc.f r (n:Int) es d v t) (λr=>Less es d (one v t) r/\Bd r (B+12*K)):=by
 simp only[aCc.f]
 refine aPt n es hes hel d v t hd hv hK hbd ht hB es.length 0 _ (by omega) ⟨rfl,λw _ _=>?_⟩ ?_
 ·simp[lap,aHd]
 ·simpa using hbd
theorem copy_eq (l:List Int) (h:l.length<=1048576):aCk.f l=some l:=by
 unfold aCk.f
 rw[if_pos (by simp;omega)]
 rfl
structure Gr (n:Nat) (es:List E) (q:Int):Prop where
 n1:1<=n
 n6:n<=6
 hes:∀ e∈es,EOk n e
 hel:es.length<=12
 hj:Joined n es
 hq:0<=q/\q<n
theorem Gr.of {n:Nat} {es:List E} {q:Int} (h:GOk (n:Int) es) (hq:0<=q/\q<n):Gr n es q:=by
 obtain⟨h1,_,h3⟩:=h
 unfold aHb at h1
 exact⟨by omega,by omega,h1.2.2.2,h1.2.2.1,h3,hq⟩
theorem aOf {n:Int} {e:E} (h:EOk n e) {a b:Int} (hab:a≠b):aEx a b e=if e.f0=mn a b/\e.f1=mx a b then 1 else 0:=by
 unfold EOk at h
 unfold aEx mn mx
 by_cases c:b<a
 ·rw[if_pos c,if_neg (show ¬ a<b by omega)]
  by_cases x:e.f0=b/\e.f1=a
  ·rw[if_pos (.inr x),if_pos x]
  ·rw[if_neg (by omega),if_neg x]
 ·rw[if_neg c,if_pos (show a<b by omega)]
  by_cases x:e.f0=a/\e.f1=b
  ·rw[if_pos (.inl x),if_pos x]
  ·rw[if_neg (by omega),if_neg x]
theorem aOd {n:Int} {es:List E} (hes:∀ e∈es,EOk n e) (a:Int):mult es a a=0:=by
 apply aGq
 intro e he
 have h:=hes e he
 unfold EOk at h
 unfold aEx
 rw[if_neg (by omega)]
theorem aOe {es:List E} {i:Nat} (h:i<es.length) (a b:Int):mult (es.drop i) a b=aEx a b es[i]+mult (es.drop (i+1)) a b:=by
 rw[List.drop_eq_getElem_cons h]
 exact aD0 _ _ _
theorem aPj (n:Int) (es:List E) (hes:∀ e∈es,EOk n e) (hel:es.length<=12) (a b:Int) (hab:a≠b):∀ (d i:Nat) (c:Int),i+d=es.length->0<=c->c<=i->Ep (λk=>aAe.l0 k a b c es (es.length:Int) (i:Int)) (·=c+mult (es.drop i) a b):=by
 intro d
 induction d with
 | zero =>
  intro i c hi h0 h1
  refine Ep.up ?_
  simp only[aAe.l0]
  refine Ep.neg (by omega) (Ep.now ?_)
  rw[List.drop_of_length_le (by omega)]
  simp[mult,aHd]
 | succ d ih =>
  intro i c hi h0 h1
  have hlt:i<es.length:=by omega
  have hk:=hes _ (List.getElem_mem hlt)
  refine Ep.up ?_
  simp only[aAe.l0]
  refine Ep.pos (by omega) (Ep.pos (by omega) (Ep.pos (by omega) ?_))
  rw[aF4 hlt,wrap_succ (by omega),aCv (x:=c+1) (by omega) (by omega),aOe hlt,aOf hk hab]
  refine Ep.ite (λh=>Ep.ite (λh2=>?_) (λh2=>?_)) (λh=>?_)
  ·rw[if_pos ⟨h,h2⟩]
   refine(ih (i+1) (c+1) (by omega) (by omega) (by omega)).mono ?_
   rintro _ rfl
   omega
  ·rw[if_neg (λx=>h2 x.2)]
   refine(ih (i+1) c (by omega) (by omega) (by omega)).mono ?_
   rintro _ rfl
   omega
  ·rw[if_neg (λx=>h x.1)]
   refine(ih (i+1) c (by omega) (by omega) (by omega)).mono ?_
   rintro _ rfl
   omega
theorem aMl (n:Int) (es:List E) (v:Int):aDh.f n es v=some (decide (0<=v/\v<n)):=by
 unfold aDh.f
 by_cases h:v≥0
 ·rw[if_pos h]
  have:(0<=v/\v<n)↔v<n:=⟨λx=>x.2,λx=>⟨h,x⟩⟩
  simp only[this]
 ·rw[if_neg h]
  have:¬ (0<=v/\v<n):=λx=>h x.1
  simp only[this,decide_false]
theorem aWh (n:Int) (es:List E) (hes:∀ e∈es,EOk n e) (hel:es.length<=12) (a b:Int) (ha:0<=a/\a<n) (hb:0<=b/\b<n):Ep (λk=>aAe.f k n es a b) (·=mult es a b):=by
 simp only[aAe.f]
 refine Ep.aEu (aMl _ _ _) (Ep.pos (by simpa using ha) (Ep.aEu (aMl _ _ _) (Ep.pos (by simpa using hb) ?_)))
 refine Ep.up ?_
 simp only[aAe.j0]
 refine Ep.ite (λh=>Ep.now ?_) (λh=>?_)
 ·have:a=b:=by simpa using h
  rw[this,aOd hes]
 ·have hab:a≠b:=by simpa using h
  refine(aPj n es hes hel a b hab es.length 0 0 (by omega) (by omega) (by omega)).mono ?_
  rintro _ rfl
  simp
theorem aPs (n:Int) (es:List E) (hes:∀ e∈es,EOk n e) (hel:es.length<=12) (a b:Int) (hab:a≠b):∀ (d i:Nat) (c:Int),i+d=es.length->0<=c->c<=i->Ep (λk=>aAb.l0 k a b c es (es.length:Int) (i:Int)) (·=c+mult (es.drop i) a b):=by
 intro d
 induction d with
 | zero =>
  intro i c hi h0 h1
  refine Ep.up ?_
  simp only[aAb.l0]
  refine Ep.neg (by omega) (Ep.now ?_)
  rw[List.drop_of_length_le (by omega)]
  simp[mult,aHd]
 | succ d ih =>
  intro i c hi h0 h1
  have hlt:i<es.length:=by omega
  have hk:=hes _ (List.getElem_mem hlt)
  refine Ep.up ?_
  simp only[aAb.l0]
  refine Ep.pos (by omega) (Ep.pos (by omega) (Ep.pos (by omega) ?_))
  rw[aF4 hlt,wrap_succ (by omega),aCv (x:=c+1) (by omega) (by omega),aOe hlt,aOf hk hab]
  refine Ep.ite (λh=>Ep.ite (λh2=>?_) (λh2=>?_)) (λh=>?_)
  ·rw[if_pos ⟨h,h2⟩]
   refine(ih (i+1) (c+1) (by omega) (by omega) (by omega)).mono ?_
   rintro _ rfl
   omega
  ·rw[if_neg (λx=>h2 x.2)]
   refine(ih (i+1) c (by omega) (by omega) (by omega)).mono ?_
   rintro _ rfl
   omega
  ·rw[if_neg (λx=>h x.1)]
   refine(ih (i+1) c (by omega) (by omega) (by omega)).mono ?_
   rintro _ rfl
   omega
theorem aR5 (n:Int) (es:List E) (hes:∀ e∈es,EOk n e) (hel:es.length<=12) (a b:Int) (ha:0<=a/\a<n) (hb:0<=b/\b<n):Ep (λk=>aAb.f k n es a b) (·=mult es a b):=by
 simp only[aAb.f]
 refine Ep.neg (by unfold mn;split<;>omega) (Ep.neg (by unfold mx;split<;>omega) ?_)
 refine Ep.up ?_
 simp only[aAb.j0]
 refine Ep.ite (λh=>Ep.now ?_) (λh=>?_)
 ·have:a=b:=by simpa using h
  rw[this,aOd hes]
 ·have hab:a≠b:=by simpa using h
  refine(aPs n es hes hel a b hab es.length 0 0 (by omega) (by omega) (by omega)).mono ?_
  rintro _ rfl
  simp
def aYp (x:Int):List Int->Nat->Int
 | [],_=>-1
 | a::r,i=>if x=a then i else aYp x r (i+1)
theorem aUk {l:List Int} {i:Nat} (h:i<l.length) (x:Int) (j:Nat):aYp x (l.drop i) j=if x=l[i] then(j:Int) else aYp x (l.drop (i+1)) (j+1):=by
 rw[List.drop_eq_getElem_cons h]
 rfl
theorem aR9 (x:Int):∀ (l:List Int) (i:Nat),0<=aYp x l i↔x∈l
 | [],i=>by simp[aYp]
 | a::r,i=>by
  unfold aYp
  by_cases h:x=a
  ·rw[if_pos h,h];simp
  ·rw[if_neg h,aR9 x r (i+1)];simp[h]
theorem aX9 (l:List Int) (x:Int) (hl:l.length<=1048576):∀ (d i:Nat),i+d=l.length->Ep (λk=>aB1.l0 k l x (l.length:Int) (i:Int)) (·=aYp x (l.drop i) i):=by
 intro d
 induction d with
 | zero =>
  intro i hi
  refine Ep.up ?_
  simp only[aB1.l0]
  refine Ep.neg (by omega) (Ep.now ?_)
  rw[List.drop_of_length_le (by omega)]
  rfl
 | succ d ih =>
  intro i hi
  have hlt:i<l.length:=by omega
  refine Ep.up ?_
  simp only[aB1.l0]
  refine Ep.pos (by omega) (Ep.pos (by omega) (Ep.pos (by omega) ?_))
  rw[aEh hlt,wrap_succ (by omega),aUk hlt]
  refine Ep.ite (λh=>Ep.now ?_) (λh=>?_)
  ·rw[if_pos h]
  ·rw[if_neg h]
   exact ih (i+1) (by omega)
theorem aX8 (l:List Int) (x:Int) (hl:l.length<=1048576):Ep (λk=>aB1.f k l x) (·=aYp x l 0):=by
 have:=aX9 l x hl l.length 0 (by omega)
 simp only[aB1.f]
 exact this
theorem aLn (l:List Int) (x:Int) (hl:l.length<=1048576):Ep (λk=>aBb.f k l x) (·=decide (x∈l)):=by
 simp only[aBb.f]
 refine Ep.bind (aX8 l x hl) ?_
 rintro _ rfl
 refine Ep.now ?_
 have:=aR9 x l 0
 simp only[ge_iff_le,this]
theorem aMq {es:List E} (hel:es.length<=12) (v:Int):∀ (b:List Int),0<=aDw es b v/\aDw es b v<=12*b.length
 | []=>by simp[aDw]
 | a::r=>by
  have ih:=aMq hel v r
  have h0:=aEw es v a
  have h1:=aJk es v a
  unfold aDw at ih ⊢
  rw[List.map_cons,List.sum_cons,List.length_cons]
  omega
theorem aPx {n:Nat} {es:List E} {q:Int} (g:Gr n es q) (d:List Int) (hd:d.length=n) (b:List Int) (hok:b.Nodup/\∀ v∈b,0<=v/\v<n) (hbl:b.length<=n) (v:Nat) (hv:v<n) {Q:List Int->Prop}
  (hk:Ep (λk=>aB0.l1 k d b (if(v:Int)∉b/\rd d v<aDw es b v then(v:Int) else -1) ((v+1:Nat):Int) (n:Int) es) Q) :
  ∀ (dd i:Nat),i+dd=b.length->Ep (λk=>aB0.l2 k d b (-1) (v:Int) (aDw es (b.take i) v) b (b.length:Int) (i:Int) (n:Int) es) Q:=by
 have hn:=g.n6
 have hel:=g.hel
 intro dd
 induction dd with
 | zero =>
  intro i hi
  rw[List.take_of_length_le (by omega)]
  refine Ep.up ?_
  simp only[aB0.l2]
  have hw:=wrap_succ (i:=v) (by omega)
  rw[hw]
  refine Ep.neg (by omega) ?_
  refine Ep.bind (aLn b v (by omega)) ?_
  rintro _ rfl
  refine Ep.ite (λh=>?_) (λh=>?_)
  ·have h':(v:Int)∈b:=by simpa using h
   rw[if_neg (λy=>y.1 h')]at hk
   exact hk
  ·have h':(v:Int)∉b:=by simpa using h
   refine Ep.pos (by omega) (Ep.pos (by omega) (Ep.ite (λh2=>?_) (λh2=>?_)))
   ·rw[if_pos ⟨h',h2⟩]at hk
    exact hk
   ·rw[if_neg (λy=>h2 y.2)]at hk
    exact hk
 | succ dd ih =>
  intro i hi
  have hlt:i<b.length:=by omega
  have hbi:=hok.2 _ (List.getElem_mem hlt)
  have hb:=aMq hel v (b.take i)
  have hml:=aJk es v b[i]
  have hm0:=aEw es v b[i]
  rw[List.length_take]at hb
  have e:aDw es (b.take (i+1)) v=aDw es (b.take i) v+mult es v b[i]:=by
   unfold aDw
   rw[List.take_succ_eq_append_getElem hlt,List.map_append,List.sum_append]
   simp
  have ih':=ih (i+1) (by omega)
  rw[e]at ih'
  refine Ep.up ?_
  simp only[aB0.l2]
  refine Ep.pos (by omega) (Ep.pos (by omega) (Ep.pos (by omega) ?_))
  rw[aEh hlt,wrap_succ (by omega)]
  refine Ep.bind (aR5 n es g.hes hel v b[i] (by omega) hbi) ?_
  rintro _ rfl
  rw[aCv (by omega) (by omega)]
  exact ih'
theorem aPy {n:Nat} {es:List E} {q:Int} (g:Gr n es q) (d:List Int) (hd:d.length=n) (b:List Int) (hok:b.Nodup/\∀ v∈b,0<=v/\v<n) (hbl:b.length<=n) {Q:List Int->Prop}
  (hk:Ep (λk=>if aGu es (rd d) b n 0<0 then some b else(if b.length<17592186044416 then aB0.l0 k d (b++[aGu es (rd d) b n 0]) (n:Int) es else none)) Q) :
  ∀ (dd i:Nat),i+dd=n->aGu es (rd d) b n 0=aGu es (rd d) b dd i->Ep (λk=>aB0.l1 k d b (-1) (i:Int) (n:Int) es) Q:=by
 have hn:=g.n6
 intro dd
 induction dd with
 | zero =>
  intro i hi he
  rw[he]at hk
  simp only[aGu]at hk
  refine Ep.up ?_
  simp only[aB0.l1]
  refine Ep.neg (by omega) (Ep.up ?_)
  simp only[aB0.j2]
  exact Ep.neg (by simp) hk
 | succ dd ih =>
  intro i hi he
  refine Ep.up ?_
  simp only[aB0.l1]
  refine Ep.pos (by omega) (Ep.up ?_)
  simp only[aB0.j2]
  refine Ep.pos (by simp) ?_
  have h2:=aPx (Q:=Q) g d hd b hok hbl i (by omega) ?_ b.length 0 (by omega)
  ·simpa[aDw]using h2
  ·replace he:aGu es (rd d) b n 0=(if(i:Int)∉b/\rd d i<aDw es b i then(i:Int) else aGu es (rd d) b dd (i+1)):=he
   by_cases h:(i:Int)∉b/\rd d i<aDw es b i
   ·rw[if_pos h]at he ⊢
    rw[he]at hk
    refine Ep.up ?_
    simp only[aB0.l1]
    refine Ep.ite (λ_=>?_) (λ_=>?_)
    ·refine Ep.up ?_
     simp only[aB0.j2]
     exact Ep.neg (by simp) hk
    ·refine Ep.up ?_
     simp only[aB0.j2]
     exact Ep.neg (by simp) hk
   ·rw[if_neg h]at he ⊢
    exact ih (i+1) (by omega) he
theorem aPz {n:Nat} {es:List E} {q:Int} (g:Gr n es q) (d:List Int) (hd:d.length=n):∀ (k:Nat) (b:List Int),n+1<=b.length+k->aNq n es (rd d) q b->Ep (λf=>aB0.l0 f d b (n:Int) es) (·=aP0 n es (rd d) k b):=by
 have hn:=g.n6
 intro k
 induction k with
 | zero =>
  intro b hl hb
  have:=hb.len g.hq
  omega
 | succ k ih =>
  intro b hl hb
  have hok:=hb.ok g.hq
  have hlen:=hb.len g.hq
  refine Ep.up ?_
  simp only[aB0.l0]
  refine aPy (Q:=(·=aP0 n es (rd d) (k+1) b)) g d hd b ⟨hok.1,hok.2.1⟩ hlen ?_ n 0 (by omega) rfl
  unfold aP0
  have hnx:=aKd es (rd d) b n 0
  generalize aGu es (rd d) b n 0=v at hnx ⊢
  refine Ep.ite (λh=>Ep.now ?_) (λh=>?_)
  ·rw[if_pos h]
  ·rw[if_neg h]
   rcases hnx with ⟨h2,_⟩|⟨h2,h3,h4,h5⟩
   ·omega
   ·exact Ep.pos (by omega) (ih _ (by simp;omega) (hb.step (by omega) (by omega) h4 h5))
theorem aR8 {n:Nat} {es:List E} {q:Int} (g:Gr n es q) (d:List Int) (hd:d.length=n):Ep (λk=>aB0.f k (n:Int) es d q) (·=aLp n es (rd d) q):=by
 have hn:=g.n6
 simp only[aB0.f]
 exact aPz g d hd n [q] (by simp;omega) .start
theorem aPu (q:Int) (p:List Int) (hl:p.length<=1048576):∀ (d i:Nat),i+d=p.length->Ep (λk=>aBt.l0 k q p (p.length:Int) (i:Int)) (·=aH1 q p d i):=by
 intro d
 induction d with
 | zero =>
  intro i hi
  refine Ep.up ?_
  simp only[aBt.l0]
  exact Ep.neg (by omega) (Ep.now rfl)
 | succ d ih =>
  intro i hi
  refine Ep.up ?_
  simp only[aBt.l0]
  refine Ep.pos (by omega) (Ep.pos (by omega) (Ep.pos (by omega) ?_))
  rw[wrap_succ (by omega)]
  unfold aH1
  refine Ep.ite (λh=>?_) (λh=>?_)
  ·rw[if_pos h]
   exact ih (i+1) (by omega)
  ·rw[if_neg h]
   refine Ep.ite (λh2=>Ep.now ?_) (λh2=>?_)
   ·rw[if_pos h2]
   ·rw[if_neg h2]
    exact ih (i+1) (by omega)
theorem aR7 (p:List Int) (q:Int) (hl:p.length<=1048576):Ep (λk=>aBt.f k p q) (·=aH1 q p p.length 0):=by
 simp only[aBt.f]
 exact aPu q p hl p.length 0 (by omega)
def bBs (n:Nat) (es:List E) (q:Int) (d:List Int) (t:Int->Int):Prop:=aFs n es q (bH4 es (rd d)) t
theorem bBs.bds {n:Nat} {es:List E} {q:Int} (g:Gr n es q) {d:List Int} (hd:d.length=n) (hb:Bd d 1000) {t:Int->Int} (h:bBs n es q d t) :
  (∀ v:Int,0<=v->v<n->0<=t v/\t v<=36432)/\aEg n (λi=>t (i:Int))<=218592/\t q=0/\∀ w:Int,0<=w->w<n→-440000<=rd d w+lap es t w/\rd d w+lap es t w<=440000:=by
 have h1:=aFs.small g.n6 g.hes g.hj g.hq h (c:=1012) (by omega) (λv h0 h1 h2=>by
  unfold bH4
  have:=hb v h0 (by omega)
  have:=aM8 es v
  have:=g.hel
  omega)
 refine⟨λv h0 h2=>by have:=h1.1 v h0 h2;omega,by omega,h.aL7.2,λw h0 h2=>?_⟩
 have h3:=aU8 g.hes g.hel (s:=t) (L:=0) (S:=36432) (by omega) (λv h0 h2=>by have:=h1.1 v h0 h2;omega) w
 have:=hb w h0 (by omega)
 omega
theorem bBs.zero {n:Nat} {es:List E} {q:Int} {d:List Int}:bBs n es q d (λ_=>0):=aFs.zero
structure Sec (n:Nat) (es:List E) (q:Int) (d:List Int) (t u:Int->Int):Prop where
 ow:bBs n es q d t
 sets:Sets n es q (λv=>rd d v+lap es t v) u
theorem Sec.bds {n:Nat} {es:List E} {q:Int} (g:Gr n es q) {d:List Int} (hd:d.length=n) (hb:Bd d 1000) {t u:Int->Int} (h:Sec n es q d t u) :
  (∀ v:Int,0<=v->v<n->0<=u v/\u v<=15840000)/\aEg n (λi=>u (i:Int))<=95040000/\(∀ v:Int,0<=v->v<n→-15880000<=u v-t v/\u v-t v<=15880000)/\∀ w:Int,0<=w->w<n→-200000000<=rd d w+lap es t w-lap es u w/\rd d w+lap es t w-lap es u w<=200000000:=by
 have h1:=h.ow.bds g hd hb
 have h2:=h.sets.small g.n6 g.hes g.hj g.hq (c:=440000) (by omega) (λv h0 h2 _=>(h1.2.2.2 v h0 h2).2)
 refine⟨λv h0 h3=>by have:=h2.1 v h0 h3;omega,by omega,λv h0 h3=>by have:=h2.1 v h0 h3;have:=h1.1 v h0 h3;omega,λw h0 h3=>?_⟩
 have h4:=aU8 g.hes g.hel (s:=u) (L:=0) (S:=15840000) (by omega) (λv h0 h2'=>by have:=h2.1 v h0 h2';omega) w
 have:=h1.2.2.2 w h0 h3
 omega
theorem Sec.done {n:Nat} {es:List E} {q:Int} (g:Gr n es q) {d:List Int} {t u:Int->Int} (h:Sec n es q d t u) {s x:List Int} (hs:Rep n s (λw=>u w-t w)) (hx:Rep n x (λw=>rd d w+lap es t w-lap es u w)) {b:List Int} (hbu:aNq n es (rd x) q b) (hl:b.length=n):aF9 n es q d (x,s):=by
 refine⟨hx.1,hs.1,hbu.red g.hes g.hq hl (λv v0 v1 v2=>?_),?_,λv v0 v1=>?_⟩
 ·rw[hx.2 v v0 v1]
  exact h.sets.keeps v v0 v1 v2
 ·have e:rd s q=u q-t q:=hs.2 q g.hq.1 g.hq.2
  show rd s q=0
  rw[e,h.sets.aYw,h.ow.aL7.2]
  rfl
 ·have e:rd x v=rd d v+lap es t v-lap es u v:=hx.2 v v0 v1
  show rd x v=rd d v-lap es (rd s) v
  rw[e,aIy g.hes (t:=λw=>u w-t w) hs.2,aLc]
  omega
def aFo (b:List Int) (i:Int) (v:Int):Int:=if v<i then unb b v else 0
theorem aMa {b:List Int} {i:Int} (hm:i∉b) (v:Int):aFo b (i+1) v=aFo b i v+one i 1 v:=by
 unfold aFo one
 by_cases c:v=i
 ·rw[c,if_pos (by omega),if_neg (by omega),if_pos rfl,aN0 hm];rfl
 ·rw[if_neg c]
  by_cases c2:v<i
  ·rw[if_pos (by omega),if_pos c2];omega
  ·rw[if_neg (by omega),if_neg c2];rfl
theorem aRs {b:List Int} {i:Int} (hm:i∈b) (v:Int):aFo b (i+1) v=aFo b i v:=by
 unfold aFo
 by_cases c:v=i
 ·rw[c,if_pos (by omega),if_neg (by omega),aKv hm]
 ·by_cases c2:v<i
  ·rw[if_pos (by omega),if_pos c2]
  ·rw[if_neg (by omega),if_neg c2]
theorem unbTo_01 (b:List Int) (i v:Int):0<=aFo b i v/\aFo b i v<=1:=by
 unfold aFo
 split
 ·by_cases h:v∈b
  ·rw[aKv h];omega
  ·rw[aN0 h];omega
 ·omega
theorem aS7 {n:Nat} {es:List E} {q:Int} (g:Gr n es q) {d:List Int} (hd:d.length=n) (hb:Bd d 1000) {t u:Int->Int} (h:Sec n es q d t u) (b:List Int) (hbl:b.length<=6) {Q:List Int×List Int->Prop}
  (hk:∀ s x:List Int,Rep n s (λw=>u w+unb b w-t w)->Rep n x (λw=>rd d w+lap es t w-lap es (λw=>u w+unb b w) w)->Ep (λk=>aB2.l1 k q x s (n:Int) es) Q) :
  ∀ (dd i:Nat) (s x:List Int),i+dd=n->Rep n s (λw=>u w+aFo b i w-t w)->Rep n x (λw=>rd d w+lap es t w-lap es (λw=>u w+aFo b i w) w)->Ep (λk=>aB2.l2 k q x s b (n:Int) (i:Int) (n:Int) es) Q:=by
 have hn:=g.n6
 have hbd:=h.bds g hd hb
 intro dd
 induction dd with
 | zero =>
  intro i s x hi hs hx
  obtain rfl:i=n:=by omega
  refine Ep.up ?_
  simp only[aB2.l2]
  refine Ep.neg (by omega) (hk s x (hs.congr λw _ w1=>by unfold aFo;rw[if_pos w1]) (hx.congr λw _ _=>?_))
  rw[aIy g.hes (s:=λw=>u w+aFo b i w) (t:=λw=>u w+unb b w) (λv _ v1=>by unfold aFo;rw[if_pos v1])]
 | succ dd ih =>
  intro i s x hi hs hx
  have hsl:=hs.1
  have hxl:=hx.1
  have hsi:rd s (i:Int)=u i+aFo b i i-t i:=hs.2 i (by omega) (by omega)
  have h1:=hbd.2.2.1 i (by omega) (by omega)
  have h2:=unbTo_01 b i i
  refine Ep.up ?_
  simp only[aB2.l2]
  rw[wrap_succ (by omega)]
  refine Ep.pos (by omega) (Ep.bind (aLn b i (by omega)) ?_)
  rintro _ rfl
  refine Ep.ite (λhm=>?_) (λhm=>?_)
  ·have hm':(i:Int)∈b:=by simpa using hm
   have e:aFo b ((i:Int)+1)=aFo b i:=funext λw=>aRs hm' w
   refine ih (i+1) s x (by omega) (hs.congr λw _ _=>?_) (hx.congr λw _ _=>?_)
   ·rw[Int.natCast_succ,e]
   ·simp only[Int.natCast_succ,e]
  ·have hm':(i:Int)∉b:=by simpa using hm
   have hbx:Bd x 1000000000:=hx.bd λw w0 w1=>by
    have h3:=hbd.2.2.2 w w0 w1
    have h4:=aU8 g.hes g.hel (s:=aFo b i) (L:=0) (S:=1) (by omega) (λv _ _=>by have:=unbTo_01 b i v;omega) w
    rw[aFt]
    omega
   refine Ep.bind (aR6 n es g.hes g.hel x i 1 hxl ⟨by omega,by omega⟩ (B:=1000000000) (K:=1) ⟨by omega,by omega⟩ hbx (by omega) (by omega)) ?_
   rintro r ⟨hr,_⟩
   refine Ep.pos (by omega) (Ep.pos (by omega) ?_)
   rw[hsi,aCv (by omega) (by omega)]
   refine ih (i+1) _ r (by omega) ((hs.set (v:=(i:Int)) (by omega) (by omega) _).congr λw _ _=>?_) ((hr.rep hxl).congr λw w0 w1=>?_)
   ·rw[Int.natCast_succ,aMa hm']
    unfold one
    by_cases e:w=i
    ·rw[if_pos e,if_pos e,e];omega
    ·rw[if_neg e,if_neg e];omega
   ·have hxw:rd x w=rd d w+lap es t w-lap es (λw=>u w+aFo b i w) w:=hx.2 w w0 w1
    have e:(λw=>u w+aFo b ((i+1:Nat):Int) w)=λw=>(λw=>u w+aFo b i w) w+one (i:Int) 1 w:=by
     funext w
     show u w+aFo b ((i+1:Nat):Int) w=u w+aFo b i w+one (i:Int) 1 w
     rw[Int.natCast_succ,aMa hm']
     omega
    rw[e,aFt,hxw]
    omega
theorem aS8 {n:Nat} {es:List E} {q:Int} (g:Gr n es q) {d:List Int} (hd:d.length=n) (hb:Bd d 1000) {t:Int->Int}:∀ (k:Nat) (u:Int->Int) (s x:List Int),95040000<aEg n (λi=>u (i:Int))+k->Sec n es q d t u->Rep n s (λw=>u w-t w)->Rep n x (λw=>rd d w+lap es t w-lap es u w) ->
  Ep (λf=>aB2.l1 f q x s (n:Int) es) (aF9 n es q d):=by
 have hn:=g.n6
 intro k
 induction k with
 | zero =>
  intro u s x hm h _ _
  have:=h.bds g hd hb
  omega
 | succ k ih =>
  intro u s x hm h hs hx
  have hxl:=hx.1
  have hsl:=hs.1
  have hbo:=aNl (es:=es) (d:=rd x) g.hq
  have hlen:=hbo.1.len g.hq
  refine Ep.up ?_
  simp only[aB2.l1]
  refine Ep.bind (aR8 g x hxl) ?_
  rintro b rfl
  generalize aLp n es (rd x) q=b at hbo hlen ⊢
  refine Ep.ite (λh2=>Ep.now ?_) (λh2=>?_)
  ·exact h.done g hs hx hbo.1 (by omega)
  ·have hex:=aNt (n:=n) (b:=b) (by omega)
   have hst:Sec n es q d t (λw=>u w+unb b w):=⟨h.ow,h.sets.step g.hes g.hq hx.2 hbo.1 hbo.2⟩
   have e:∀ w:Int,0<=w->u w+aFo b ((0:Nat):Int) w=u w:=λw w0=>by unfold aFo;rw[if_neg (by omega)];omega
   rw[hsl]
   refine aS7 g hd hb h b (by omega) (λs' x' hs' hx'=>ih (λw=>u w+unb b w) s' x' ?_ hst hs' hx') n 0 s x (by omega) (hs.congr λw w0 _=>?_) (hx.congr λw w0 w1=>?_)
   ·have h9:aEg n (λi=>u (i:Int))+1<=aEg n (λi=>u (i:Int)+unb b (i:Int)):=aZy (u:=u) hex
    omega
   ·rw[e w w0]
   ·rw[aIy g.hes (s:=u) (t:=λw=>u w+aFo b ((0:Nat):Int) w) (λv v0 _=>(e v v0).symm)]
theorem aS9 {n:Nat} {es:List E} {q:Int} (g:Gr n es q) {d:List Int} (hd:d.length=n) (hb:Bd d 1000):∀ (k:Nat) (t:Int->Int) (s x:List Int),218592<aEg n (λi=>t (i:Int))+k->bBs n es q d t->Rep n s (λw=>- t w)->Rep n x (λw=>rd d w+lap es t w) ->
  Ep (λf=>aB2.l0 f q x s (aH1 q x x.length 0) (n:Int) es) (aF9 n es q d):=by
 have hn:=g.n6
 have hel:=g.hel
 have hz:∀ w,lap es (λ_=>0) w=0:=λw=>aHj (c:=0) (λ_ _=>⟨rfl,rfl⟩) w
 intro k
 induction k with
 | zero =>
  intro t s x hm ho _ _
  have:=ho.bds g hd hb
  omega
 | succ k ih =>
  intro t s x hm ho hs hx
  have hxl:=hx.1
  have hsl:=hs.1
  have hbd:=ho.bds g hd hb
  refine Ep.up ?_
  simp only[aB2.l0]
  refine Ep.ite (λh=>?_) (λh=>?_)
  ·have hp:=aXq (q:=q) hxl (by omega)
   generalize aH1 q x x.length 0=v at hp ⊢
   obtain⟨h0,h1,h2,h3⟩:=hp
   have hvp:=aTd g.hj g.hq ⟨h0,h1⟩ h2
   have hvl:=aM8 es v
   have hxv:rd x v=rd d v+lap es t v:=hx.2 v h0 h1
   have hsv:rd s v=- t v:=hs.2 v h0 h1
   have hxb:=hbd.2.2.2 v h0 h1
   have htv:=hbd.1 v h0 h1
   have hdv:=Int.ediv_mul_le (val es v-1-rd x v) (b:=val es v) (by omega)
   have hd0:1<=(val es v-1-rd x v)/val es v:=(Int.le_ediv_iff_mul_le hvp).2 (by omega)
   have hdm:(val es v-1-rd x v)/val es v<=val es v-1-rd x v:=Int.ediv_le_self _ (by omega)
   have htd:Int.tdiv (val es v-1-rd x v) (val es v)=(val es v-1-rd x v)/val es v:=Int.tdiv_eq_ediv_of_nonneg (by omega)
   have hbx:Bd x 1000000:=hx.bd λw w0 w1=>by
    have:=hbd.2.2.2 w w0 w1
    omega
   refine Ep.bind (aIg n es v (by omega)) ?_
   rintro _ rfl
   rw[aPi ⟨h0,h1⟩]
   refine Ep.pos (by omega) (Ep.pos (by omega) (Ep.neg (by omega) ?_))
   rw[aCv (x:=val es v-1) (by omega) (by omega),aCv (x:=val es v-1-rd x v) (by omega) (by omega),htd,aCv (x:=(val es v-1-rd x v)/val es v) (by omega) (by omega)]
   generalize (val es v-1-rd x v)/val es v=m at hdv hd0 hdm ⊢
   obtain⟨m,rfl⟩:=Int.eq_ofNat_of_zero_le (a:=m) (by omega)
   rw[aCv (x:=-(m:Int)) (by omega) (by omega)]
   refine Ep.bind (aR6 n es g.hes g.hel x v (-(m:Int)) hxl ⟨h0,h1⟩ (B:=1000000) (K:=1000000) ⟨by omega,by omega⟩ hbx (by omega) (by omega)) ?_
   rintro r ⟨hr,_⟩
   have hr':=hr.rep hxl
   have hrl:=hr'.1
   have ho':bBs n es q d (λw=>t w+one v m w):=aFs.many g.hes ho h0 h1 h2 m (by unfold bH4;omega)
   refine Ep.pos (by omega) ?_
   refine Ep.bind (aR7 r q (by omega)) ?_
   rintro _ rfl
   rw[hsv,aCv (x:=- t v-(m:Int)) (by omega) (by omega)]
   refine ih (λw=>t w+one v m w) _ r ?_ ho' ((hs.set h0 h1 _).congr λw _ _=>?_) (hr'.congr λw w0 w1=>?_)
   ·rw[aWe h0 h1]
    omega
   ·unfold one
    by_cases e:w=v
    ·rw[if_pos e,if_pos e,e];omega
    ·rw[if_neg e,if_neg e];omega
   ·have h5:rd x w=rd d w+lap es t w:=hx.2 w w0 w1
    have e:one v (-(m:Int))=λw=>- one v m w:=by
     funext w
     unfold one
     split<;>omega
    rw[h5,aFt,e,aNc]
    omega
  ·have hp:=aXr (q:=q) hxl (by omega)
   refine aS8 g hd hb 95040001 (λ_=>0) s x ?_ ⟨ho,Sets.zero λv v0 v1 v2=>?_⟩ (hs.congr λw _ _=>by omega) (hx.congr λw _ _=>by rw[hz];omega)
   ·simp only[aEr];omega
   ·have h3:=hp v v0 v1 v2
    have h4:rd x v=rd d v+lap es t v:=hx.2 v v0 v1
    omega
theorem aLg {n:Nat} {es:List E} {q:Int} (g:Gr n es q) {d:List Int} (hd:d.length=n) (hb:Bd d 1000):Ep (λk=>aB2.f k (n:Int) es d q) (aF9 n es q d):=by
 have hn:=g.n6
 have hz:∀ w,lap es (λ_=>0) w=0:=λw=>aHj (c:=0) (λ_ _=>⟨rfl,rfl⟩) w
 simp only[aB2.f]
 refine Ep.aEu (copy_eq d (by omega)) (Ep.pos (by omega) (Ep.pos (by omega) ?_))
 refine Ep.bind (aR7 d q (by omega)) ?_
 rintro _ rfl
 refine aS9 g hd hb 218593 (λ_=>0) _ d ?_ .zero (Rep.zero n) ((Rep.self hd).congr λw _ _=>by rw[hz];omega)
 simp only[aEr];omega
theorem aMn {n:Nat} {es:List E} {q:Int} (g:Gr n es q) {d:List Int} (hd:d.length=n) (hb:Bd d 1000):Ep (λk=>aB2.f k (n:Int) es d q) (·=aF3 n es q d):=(aLg g hd hb).mono λ_ hr=>hr.eq g.hes g.hq
theorem aJe {n:Nat} {es:List E} {q:Int} (g:Gr n es q) {d:List Int} (hd:d.length=n) (hb:Bd d 1000):aF9 n es q d (aF3 n es q d):=by
 obtain⟨r,hr,_⟩:=aLg g hd hb
 rw[<-hr.eq g.hes g.hq]
 exact hr
def Mod (l:List Int):Prop:=∀ x∈l,-1000000000<=x/\x<=1000000000
theorem aS6 (l:List Int) (hl:l.length<=1048576) (hm:Mod l):∀ (d i:Nat) (a:Int),i+d=l.length→-(1000000000*(i:Int))<=a->a<=1000000000*(i:Int)->Ep (λk=>aC0.l0 k a l (l.length:Int) (i:Int)) (·=a+(l.drop i).sum):=by
 intro d
 induction d with
 | zero =>
  intro i a hi h0 h1
  refine Ep.up ?_
  simp only[aC0.l0]
  refine Ep.neg (by omega) (Ep.now ?_)
  rw[List.drop_of_length_le (by omega)]
  simp
 | succ d ih =>
  intro i a hi h0 h1
  have hlt:i<l.length:=by omega
  have hx:=hm _ (List.getElem_mem hlt)
  refine Ep.up ?_
  simp only[aC0.l0]
  refine Ep.pos (by omega) (Ep.pos (by omega) (Ep.pos (by omega) ?_))
  rw[aEh hlt,wrap_succ (by omega),aCv (by omega) (by omega),List.drop_eq_getElem_cons hlt]
  refine(ih (i+1) _ (by omega) (by omega) (by omega)).mono ?_
  rintro _ rfl
  rw[List.sum_cons]
  omega
theorem aPq (l:List Int) (hl:l.length<=1048576) (hm:Mod l):Ep (λk=>aC0.f k l) (·=l.sum):=by
 simp only[aC0.f]
 refine(aS6 l hl hm l.length 0 0 (by omega) (by omega) (by omega)).mono ?_
 rintro _ rfl
 simp
theorem aRu (l:List Int) (hl:l.length<=1048576) (hm:Mod l):∀ (d i:Nat) (a:Int),i+d=l.length→-(1000000000*(i:Int))<=a->a<=1000000000*(i:Int)->Ep (λk=>aBo.l0 k a l (l.length:Int) (i:Int)) (·=a+(l.drop i).sum):=by
 intro d
 induction d with
 | zero =>
  intro i a hi h0 h1
  refine Ep.up ?_
  simp only[aBo.l0]
  refine Ep.neg (by omega) (Ep.now ?_)
  rw[List.drop_of_length_le (by omega)]
  simp
 | succ d ih =>
  intro i a hi h0 h1
  have hlt:i<l.length:=by omega
  have hx:=hm _ (List.getElem_mem hlt)
  refine Ep.up ?_
  simp only[aBo.l0]
  refine Ep.pos (by omega) (Ep.pos (by omega) (Ep.pos (by omega) ?_))
  rw[aEh hlt,wrap_succ (by omega),aCv (by omega) (by omega),List.drop_eq_getElem_cons hlt]
  refine(ih (i+1) _ (by omega) (by omega) (by omega)).mono ?_
  rintro _ rfl
  rw[List.sum_cons]
  omega
theorem bA0 (l:List Int) (hl:l.length<=1048576) (hm:Mod l):Ep (λk=>aBo.f k l) (·=l.sum):=by
 simp only[aBo.f]
 refine(aRu l hl hm l.length 0 0 (by omega) (by omega) (by omega)).mono ?_
 rintro _ rfl
 simp
end Cf
namespace Cf
theorem aQ6 {n:Int} {es:List E} {d:List Int} (h:dOk n es d=true):∃ m:Nat,n=m/\(∀ q:Int,0<=q->q<n->Gr m es q)/\1<=m/\m<=6/\d.length=m/\Bd d 60/\Mod d:=by
 obtain⟨h1,h2,h3⟩:=aJp.1 h
 obtain⟨m,rfl⟩:=Int.eq_ofNat_of_zero_le (a:=n) (by omega)
 have hg:=h1.1
 unfold aHb at hg
 exact⟨m,rfl,λq q0 q1=>Gr.of h1 ⟨q0,q1⟩,by omega,by omega,by omega,Bd.bI8 h3,λx hx=>by have:=h3 x hx;omega⟩
end Cf
namespace P
def aC1.l0:Nat->List Int->List Int->Int->Int->Option (Bool)
 | 0,_,_,_,_=>none
 | k+1,x0,x1,k5,fQ=>if fQ<k5 then(if 0<=fQ then(if fQ<(x0.length:Int) then(if fQ<(x1.length:Int) then(if(rd x0 fQ)=(rd x1 fQ) then(aC1.l0 k x0 x1 k5 (wrap64 (fQ+1))) else(some false)) else(none)) else(none)) else(none)) else(some true)
def aC1.f (k:Nat) (l0:List Int) (l1:List Int):Option (Bool):=if(l0.length:Int)=(l1.length:Int) then(aC1.l0 k l0 l1 (l0.length:Int) 0) else(some false)
theorem aC1.aBa:∀ k,(∀ y0 y1 y2 y3,LeO (aC1.l0 k y0 y1 y2 y3) (aC1.l0 (k+1) y0 y1 y2 y3))
 | 0=>λ_ _ _ _ r h=>by simp[aC1.l0]at h
 | k+1=>by
  have ih0:=aC1.aBa k
  ·intro y0 y1 y2 y3
   unfold aC1.l0
   exact zm0
theorem aC1.mono:∀ a0 a1 k,LeO (aC1.f k a0 a1) (aC1.f (k+1) a0 a1):=by
 intro a0 a1 k;have ih0:=aC1.aBa k;unfold aC1.f;exact zm0
end P
namespace Cf
open P
theorem aRx {n:Nat} {f g:Int->Int} (h:∀ w:Int,0<=w->w<n->f w=g w):aO5 n f=aO5 n g:=((aG4 n f).congr h).eq
def aH8 (a b:List Int):List Int:=aO5 a.length λw=>rd a w+rd b w
def aNa (a:List Int):List Int:=aO5 a.length λw=>- rd a w
theorem aPr (a b:List Int) (n:Nat) (hn:n<=1048576) (ha:a.length=n) (hb:b.length=n) (ba:Bd a 1000000000) (bb:Bd b 1000000000):∀ (d i:Nat) (x:List Int),i+d=n->Rep n x (λw=>if w<i then rd a w+rd b w else rd a w)->Ep (λk=>aC8.l0 k b x (n:Int) (i:Int)) (·=aH8 a b):=by
 intro d
 induction d with
 | zero =>
  intro i x hi hx
  obtain rfl:i=n:=by omega
  refine Ep.up ?_
  simp only[aC8.l0]
  refine Ep.neg (by omega) (Ep.now ?_)
  unfold aH8
  rw[ha]
  exact(hx.congr λw _ w1=>by rw[if_pos w1]).eq
 | succ d ih =>
  intro i x hi hx
  have hxl:=hx.1
  have h1:=ba i (by omega) (by omega)
  have h2:=bb i (by omega) (by omega)
  have hxi:rd x (i:Int)=rd a (i:Int):=by
   have h9:=hx.2 i (by omega) (by omega)
   simp only[if_neg (show ¬ (i:Int)<i by omega)]at h9
   exact h9
  refine Ep.up ?_
  simp only[aC8.l0]
  refine Ep.pos (by omega) (Ep.pos (by omega) (Ep.pos (by omega) (Ep.pos (by omega) ?_)))
  rw[wrap_succ (by omega),hxi,aCv (by omega) (by omega)]
  refine ih (i+1) _ (by omega) ((hx.set (v:=(i:Int)) (by omega) (by omega) _).congr λw _ _=>?_)
  by_cases e:w=i
  ·rw[if_pos e,if_pos (by omega),e]
  ·rw[if_neg e]
   by_cases e2:w<i
   ·rw[if_pos e2,if_pos (by omega)]
   ·rw[if_neg e2,if_neg (by omega)]
theorem aXb (a b:List Int) (hl:a.length<=1048576) (hab:a.length=b.length) (ba:Bd a 1000000000) (bb:Bd b 1000000000):Ep (λk=>aC8.f k a b) (·=aH8 a b):=by
 simp only[aC8.f]
 refine Ep.aEu (copy_eq a hl) ?_
 exact aPr a b a.length hl rfl hab.symm ba bb a.length 0 a (by omega) ((Rep.self rfl).congr λw w0 _=>by rw[if_neg (by omega)])
theorem aSa (a:List Int) (n:Nat) (hn:n<=1048576) (ha:a.length=n) (ba:Bd a 1000000000):∀ (d i:Nat) (x:List Int),i+d=n->Rep n x (λw=>if w<i then-rd a w else rd a w)->Ep (λk=>aB4.l0 k x (n:Int) (i:Int)) (·=aNa a):=by
 intro d
 induction d with
 | zero =>
  intro i x hi hx
  obtain rfl:i=n:=by omega
  refine Ep.up ?_
  simp only[aB4.l0]
  refine Ep.neg (by omega) (Ep.now ?_)
  unfold aNa
  rw[ha]
  exact(hx.congr λw _ w1=>by rw[if_pos w1]).eq
 | succ d ih =>
  intro i x hi hx
  have hxl:=hx.1
  have h1:=ba i (by omega) (by omega)
  have hxi:rd x (i:Int)=rd a (i:Int):=by
   have h9:=hx.2 i (by omega) (by omega)
   simp only[if_neg (show ¬ (i:Int)<i by omega)]at h9
   exact h9
  refine Ep.up ?_
  simp only[aB4.l0]
  refine Ep.pos (by omega) (Ep.pos (by omega) (Ep.pos (by omega) ?_))
  rw[wrap_succ (by omega),hxi,aCv (by omega) (by omega)]
  refine ih (i+1) _ (by omega) ((hx.set (v:=(i:Int)) (by omega) (by omega) _).congr λw _ _=>?_)
  by_cases e:w=i
  ·rw[if_pos e,if_pos (by omega),e]
  ·rw[if_neg e]
   by_cases e2:w<i
   ·rw[if_pos e2,if_pos (by omega)]
   ·rw[if_neg e2,if_neg (by omega)]
theorem bAn (a:List Int) (hl:a.length<=1048576) (ba:Bd a 1000000000):Ep (λk=>aB4.f k a) (·=aNa a):=by
 simp only[aB4.f]
 refine Ep.aEu (copy_eq a hl) ?_
 exact aSa a a.length hl rfl ba a.length 0 a (by omega) ((Rep.self rfl).congr λw w0 _=>by rw[if_neg (by omega)])
theorem aKe (a:List Int):(aNa a).length=a.length:=by simp[aNa,aKb]
theorem aL6 (a b:List Int):(aH8 a b).length=a.length:=by simp[aH8,aKb]
theorem bAf {a:List Int} {B:Int} (h:Bd a B):Bd (aNa a) B:=(aG4 a.length _).bd λw h0 h1=>by have:=h w h0 h1;omega
theorem aQt {a b:List Int} {A B:Int} (hab:a.length=b.length) (ha:Bd a A) (hb:Bd b B):Bd (aH8 a b) (A+B):=(aG4 a.length _).bd λw h0 h1=>by have:=ha w h0 h1;have:=hb w h0 (by omega);omega
def zOk (n:Int) (es:List E) (d:List Int):Bool:=dOk n es d&&(d.sum==0)
theorem aMx {n:Int} {es:List E} {d:List Int} (h:zOk n es d=true):∃ m:Nat,n=m/\Gr m es 0/\d.length=m/\Bd d 60/\d.sum=0:=by
 unfold zOk at h
 rw[Bool.and_eq_true]at h
 obtain⟨m,rfl,g,h1,_,hl,hb,_⟩:=aQ6 h.1
 exact⟨m,rfl,g 0 (by omega) (by omega),hl,hb,by simpa using h.2⟩
theorem aNf (n:Int) (es:List E) (d:List Int) (hl:d.length<=1048576):Ep (λk=>aBi.f k n es d) (·=zOk n es d):=by
 simp only[aBi.f,zOk,aCl.f]
 refine Ep.bind (aUi n es d hl) ?_
 rintro _ rfl
 refine Ep.ite (λh=>?_) (λh=>Ep.now ?_)
 ·obtain⟨_,_,_,_,_,_,_,hm⟩:=aQ6 h
  refine Ep.bind (P:=(·=d.sum)) (Ep.bind (aPq d hl hm) ?_) ?_
  ·rintro _ rfl
   exact Ep.now rfl
  ·rintro _ rfl
   refine Ep.now ?_
   rw[h]
   rfl
 ·have:dOk n es d=false:=by simpa using h
  rw[this]
  rfl
noncomputable def bA5 (n:Int) (es:List E) (d:List Int) (q:Int):List Int×Bool:=if(dOk n es d&&decide (0<=q/\q<n))=true then((aF3 n.toNat es q d).1,true) else([],false)
theorem aR4 (n:Int) (es:List E) (d:List Int) (q:Int) (hn:Wf .i64 n) (hl:d.length<=1048576):Ep (λk=>aD5.f k n es d q) (·=bA5 n es d q):=by
 simp only[aD5.f,bA5]
 refine Ep.bind (aUi n es d hl) ?_
 rintro _ rfl
 refine Ep.ite (λh=>?_) (λh=>Ep.now ?_)
 ·refine Ep.aEu (aLf n es q hn) ?_
  have hgo:=aEp.2 (aJp.1 h).1
  rw[hgo,h]
  simp only[Bool.true_and]
  refine Ep.ite (λh2=>?_) (λh2=>Ep.now ?_)
  ·obtain⟨m,rfl,g,_,_,hdl,hb,_⟩:=aQ6 h
   have hq:0<=q/\q<(m:Int):=by simpa using h2
   refine Ep.bind (aMn (g q hq.1 hq.2) hdl (hb.mono (by omega))) ?_
   rintro _ rfl
   refine Ep.now ?_
   rw[if_pos h2]
   rfl
  ·rw[if_neg h2]
 ·have:dOk n es d=false:=by simpa using h
  rw[this]
  rfl
noncomputable def aRt (n:Int) (es:List E) (a b:List Int):List Int×Bool:=if(zOk n es a&&zOk n es b)=true then((aF3 n.toNat es 0 (aH8 a b)).1,true) else([],false)
theorem aKh (n:Int) (es:List E) (a b:List Int) (hl:a.length<=1048576) (hm:b.length<=1048576):Ep (λk=>aAk.f k n es a b) (·=aRt n es a b):=by
 simp only[aAk.f,aRt]
 refine Ep.bind (aNf n es a hl) ?_
 rintro _ rfl
 refine Ep.ite (λh=>?_) (λh=>?_)
 ·refine Ep.bind (aNf n es b hm) ?_
  rintro _ rfl
  refine Ep.up ?_
  simp only[aAk.j0]
  refine Ep.ite (λh2=>Ep.now ?_) (λh2=>?_)
  ·have:zOk n es b=false:=by simpa using h2
   rw[this]
   simp
  ·have h2':zOk n es b=true:=by simpa using h2
   obtain⟨m,rfl,g,hla,hba,_⟩:=aMx h
   obtain⟨m',e,_,hlb,hbb,_⟩:=aMx h2'
   obtain rfl:m=m':=by omega
   refine Ep.bind (aXb a b hl (by omega) (hba.mono (by omega)) (hbb.mono (by omega))) ?_
   rintro _ rfl
   refine Ep.bind (aMn g (d:=aH8 a b) (by rw[aL6];omega) ((aQt (by omega) hba hbb).mono (by omega))) ?_
   rintro _ rfl
   refine Ep.now ?_
   rw[h,h2']
   rfl
 ·refine Ep.up ?_
  simp only[aAk.j0]
  refine Ep.pos trivial (Ep.now ?_)
  have:zOk n es a=false:=by simpa using h
  rw[this]
  rfl
noncomputable def aX7 (n:Int) (es:List E) (a:List Int):List Int×Bool:=if zOk n es a=true then((aF3 n.toNat es 0 (aNa a)).1,true) else([],false)
theorem bB7 {n:Int} {es:List E} {a:List Int} (h:dOk n es a=true):dOk n es (aNa a)=true:=by
 obtain⟨h1,h2,h3⟩:=aJp.1 h
 refine aJp.2 ⟨h1,by rw[aKe];exact h2,λx hx=>?_⟩
 obtain⟨w,w0,w1,rfl⟩:=(aG4 a.length λw=>- rd a w).mem hx
 have:=Bd.bI8 h3 w w0 w1
 omega
theorem aXc (n:Int) (es:List E) (a:List Int) (hn:Wf .i64 n) (hl:a.length<=1048576):Ep (λk=>aBl.f k n es a) (·=aX7 n es a):=by
 simp only[aBl.f,aX7,aBf.f]
 refine Ep.bind (aNf n es a hl) ?_
 rintro _ rfl
 refine Ep.ite (λh=>?_) (λh=>Ep.now (by rw[if_neg h]))
 obtain⟨m,rfl,g,hla,hba,_⟩:=aMx h
 refine Ep.bind (bAn a hl (hba.mono (by omega))) ?_
 rintro _ rfl
 have hd:dOk (m:Int) es a=true:=by
  unfold zOk at h
  rw[Bool.and_eq_true]at h
  exact h.1
 have e:bA5 (m:Int) es (aNa a) 0=((aF3 m es 0 (aNa a)).1,true):=by
  unfold bA5
  have hq:=g.hq
  have:(0:Int)<=0/\(0:Int)<m:=by omega
  rw[bB7 hd,if_pos (by simpa using this.2)]
  rfl
 refine Ep.bind (P:=(·=bA5 (m:Int) es (aNa a) 0)) (Ep.bind (aR4 m es (aNa a) 0 hn (by rw[aKe];omega)) ?_) ?_
 ·rintro _ rfl
  exact Ep.now rfl
 ·rintro _ rfl
  exact Ep.now (by rw[if_pos h,e];rfl)
end Cf
namespace Cf
theorem aWp {n:Nat} {es:List E} (hj:Joined n es) {q:Int} (hq:0<=q/\q<n) {d:Int->Int} (hd:∀ v:Int,0<=v->v<n->d v=0) (hes:∀ e∈es,EOk n e):Red n es q d:=by
 refine⟨λv h0 h1 _=>by rw[hd v h0 h1];exact Int.le_refl _,λS hS hx=>?_⟩
 obtain⟨b,b0,b1,hb⟩:=hx
 have hc:aGp es q b:=((hj q hq.1 hq.2).symm).trans (hj b b0 b1)
 obtain⟨u,w,aIi,hu,hw⟩:=aJm (S:=λx=>S x=true) hc (by rw[hS];simp) hb
 have hur:=aHb.adj hes aIi.symm
 refine⟨u,hur.1,hur.2,hu,?_⟩
 rw[hd u hur.1 hur.2]
 have hw':S w=false:=by simpa using hw
 have hnn:∀ e∈es,0<=aHx (ind S) u e:=by
  intro e _
  unfold aHx ind
  by_cases a:e.f0=u
  ·by_cases b:e.f1=u
   ·simp[a,b]
   ·rw[if_pos a,if_neg b,a,hu]
    cases S e.f1<;>simp
  ·by_cases b:e.f1=u
   ·rw[if_neg a,if_pos b,b,hu]
    cases S e.f0<;>simp
   ·simp[a,b]
 obtain⟨e,he,hx⟩:=aIi
 have h1:=aIr hnn he
 have h2:1<=aHx (ind S) u e:=by
  have hk:=hes e he
  unfold EOk at hk
  unfold aHx ind
  rcases hx with ⟨x0,x1⟩|⟨x0,x1⟩
  ·rw[if_pos x0,if_neg (show ¬ e.f1=u by omega),x0,x1,hu,hw'];simp
  ·rw[if_neg (show ¬ e.f0=u by omega),if_pos x1,x0,x1,hu,hw'];simp
 unfold lap
 omega
def Mul (n:Nat) (es:List E) (a:List Int) (k:Int) (x:List Int):Prop :=
 x.length=n/\Red n es 0 (rd x)/\∃ s:Int->Int,∀ v:Int,0<=v->v<n->rd x v=k*rd a v-lap es s v
theorem Mul.unique {n:Nat} (h1:1<=n) {es:List E} (hes:∀ e∈es,EOk n e) {a:List Int} {k:Int} {x y:List Int} (hx:Mul n es a k x) (hy:Mul n es a k y):x=y:=by
 obtain⟨xl,xr,s,hs⟩:=hx
 obtain⟨yl,yr,t,ht⟩:=hy
 have:=aMe hes (q:=0) ⟨by omega,by omega⟩ xr yr (s:=λv=>t v-s v) (λv v0 v1=>by
  rw[aLc,hs v v0 v1,ht v v0 v1];omega)
 exact(Rep.self xl).ext ((Rep.self yl).congr λw h0 h1=>this.2 w h0 h1)
theorem Mul.same {n:Nat} {es:List E} {a:List Int} {j k:Int} {x:List Int} (hj:Mul n es a j x) (hk:Mul n es a k x) (hz:Red n es 0 (rd (List.replicate n 0))):Mul n es a (k-j) (List.replicate n 0):=by
 obtain⟨xl,xr,s,hs⟩:=hj
 obtain⟨_,_,t,ht⟩:=hk
 refine⟨by simp,hz,λv=>t v-s v,λv v0 v1=>?_⟩
 rw[aGg,aLc,Int.sub_mul]
 have:=hs v v0 v1
 have:=ht v v0 v1
 omega
theorem Mul.zero {n:Nat} {es:List E} {a:List Int} (hz:Red n es 0 (rd (List.replicate n 0))):Mul n es a 0 (List.replicate n 0) :=
 ⟨by simp,hz,λ_=>0,λv _ _=>by rw[aGg,aHj (c:=0) (λ_ _=>⟨rfl,rfl⟩)];omega⟩
theorem Mul.one {n:Nat} {es:List E} {a:List Int} {r:List Int×List Int} (h:aF9 n es 0 a r):Mul n es a 1 r.1 :=
 ⟨h.1,h.2.2.1,rd r.2,λv v0 v1=>by rw[h.2.2.2.2 v v0 v1];omega⟩
theorem Mul.add {n:Nat} {es:List E} {a c:List Int} {j k:Int} {x y:List Int} (hx:Mul n es a j x) (hy:Mul n es a k y) (hc:∀ v:Int,0<=v->v<n->rd c v=rd x v+rd y v) {r:List Int×List Int} (h:aF9 n es 0 c r):Mul n es a (j+k) r.1:=by
 obtain⟨_,_,s,hs⟩:=hx
 obtain⟨_,_,t,ht⟩:=hy
 refine⟨h.1,h.2.2.1,λv=>s v+t v+rd r.2 v,λv v0 v1=>?_⟩
 rw[h.2.2.2.2 v v0 v1,hc v v0 v1,hs v v0 v1,ht v v0 v1,aFt,aFt,Int.add_mul]
 omega
theorem Mul.bd {n:Nat} (hn:1<=n/\n<=6) {es:List E} (hes:∀ e∈es,EOk n e) (hel:es.length<=12) {a:List Int} (ha:a.length=n) (h0:a.sum=0) {k:Int} {x:List Int} (h:Mul n es a k x):x.sum=0/\∀ v:Int,0<=v->v<n→-72<=rd x v/\rd x v<=11:=by
 obtain⟨xl,xr,s,hs⟩:=h
 have hsum:x.sum=0:=by
  rw[aI9 n x xl,aDg (g:=λi:Nat=>k*rd a i+lap es (λv=>- s v) i) (λi hi=>by
   rw[aNc]
   have:=hs i (by omega) (by omega)
   omega),aFm,bAi hes]
  rw[aI9 n a ha]at h0
  have:aEg n (λi=>k*rd a (i:Int))=k*aEg n (λi=>rd a (i:Int)):=by
   clear hs xl xr ha h0 hes
   induction n with
   | zero=>simp[aEg]
   | succ m ih =>
    simp only[aEg]
    by_cases hm:1<=m
    ·rw[ih ⟨hm,by omega⟩,Int.mul_add]
    ·obtain rfl:m=0:=by omega
     simp[aEg]
  rw[this,h0]
  omega
 refine⟨hsum,λv v0 v1=>?_⟩
 by_cases hv:v=0
 ·subst hv
  have:=xr.aYw hn.2 hes hel (by omega)
  rw[<-aI9 n x xl,hsum]at this
  omega
 ·have:=xr.lt hes v0 v1 hv
  have:=aM8 es v
  omega
def code:List Int->Int
 | []=>0
 | a::r=>(a+72)+100*code r
theorem aUy:∀ (l:List Int),(∀ x∈l,-72<=x/\x<=11)->0<=code l/\code l<100^l.length
 | [],_=>by simp[code]
 | a::r,h=>by
  have h1:=aUy r (λx hx=>h x (List.mem_cons_of_mem _ hx))
  have h2:=h a List.mem_cons_self
  unfold code
  rw[List.length_cons,Int.pow_succ]
  omega
theorem code_inj:∀ (l m:List Int),l.length=m.length->(∀ x∈l,-72<=x/\x<=11)->(∀ x∈m,-72<=x/\x<=11)->code l=code m->l=m
 | [],[],_,_,_,_=>rfl
 | [],_::_,h,_,_,_=>by simp at h
 | _::_,[],h,_,_,_=>by simp at h
 | a::r,b::s,hl,h,k,he=>by
  have h2:=h a List.mem_cons_self
  have k2:=k b List.mem_cons_self
  unfold code at he
  have h3:code r=code s:=by omega
  rw[code_inj r s (by simpa using hl) (λx hx=>h x (List.mem_cons_of_mem _ hx)) (λx hx=>k x (List.mem_cons_of_mem _ hx)) h3]
  rw[show a=b by omega]
theorem few {n:Nat} (hn:n<=6) {L:List (List Int)} (hL:L.Nodup) (h:∀ x∈L,x.length=n/\∀ y∈x,-72<=y/\y<=11):L.length<=1000000000000:=by
 have h1:=aEt 1000000000000 (L.map code) (by
  unfold List.Nodup
  rw[List.pairwise_map]
  refine hL.imp_of_mem ?_
  intro x y hx hy hne he
  exact hne (code_inj x y (by rw[(h x hx).1,(h y hy).1]) (h x hx).2 (h y hy).2 he)) (by
  intro v hv
  obtain⟨x,hx,rfl⟩:=List.mem_map.1 hv
  have h1:=aUy x (h x hx).2
  have h2:(100:Int)^x.length<=100^6:=by
   rw[(h x hx).1]
   have hc:n=0∨n=1∨n=2∨n=3∨n=4∨n=5∨n=6:=by omega
   rcases hc with rfl|rfl|rfl|rfl|rfl|rfl|rfl<;>decide
  have h3:(100:Int)^6=1000000000000:=by decide
  omega)
 simpa using h1
def bHn (n:Nat) (es:List E) (a:List Int) (m:Int):Prop:=1<=m/\Mul n es a m (List.replicate n 0)/\∀ j:Int,1<=j->j<m->¬ Mul n es a j (List.replicate n 0)
theorem bHn.unique {n:Nat} {es:List E} {a:List Int} {m m':Int} (h:bHn n es a m) (h':bHn n es a m'):m=m':=by
 apply Classical.byContradiction
 intro hne
 rcases Int.lt_or_gt_of_ne hne with c|c
 ·exact h'.2.2 m h.1 c h.2.1
 ·exact h.2.2 m' h'.1 c h'.2.1
def Seen (n:Nat) (es:List E) (a:List Int) (L:List (List Int)):Prop:=∀ i:Nat,(h:i<L.length)->Mul n es a ((i:Int)+1) L[i]/\L[i]≠List.replicate n 0
theorem Seen.nodup {n:Nat} (h1:1<=n) {es:List E} (hes:∀ e∈es,EOk n e) {a:List Int} {L:List (List Int)} (hz:Red n es 0 (rd (List.replicate n 0))) (h:Seen n es a L):L.Nodup:=by
 unfold List.Nodup
 rw[List.pairwise_iff_getElem]
 intro i j hi hj hij he
 have hi':=h i hi
 have hj':=h j hj
 have hs:=Mul.same (he▸hi'.1) hj'.1 hz
 have hk:=h (j-i-1) (by omega)
 have e:(((j-i-1:Nat):Int)+1)=(j:Int)+1-((i:Int)+1):=by omega
 rw[e]at hk
 exact hk.2 (hk.1.unique h1 hes hs)
theorem Seen.len {n:Nat} (hn:1<=n/\n<=6) {es:List E} (hes:∀ e∈es,EOk n e) (hel:es.length<=12) {a:List Int} (ha:a.length=n) (h0:a.sum=0) {L:List (List Int)} (hz:Red n es 0 (rd (List.replicate n 0))) (h:Seen n es a L):L.length<=1000000000000:=by
 refine few hn.2 (h.nodup hn.1 hes hz) ?_
 intro x hx
 obtain⟨i,hi,rfl⟩:=List.getElem_of_mem hx
 have hm:=(h i hi).1
 refine⟨hm.1,λy hy=>?_⟩
 obtain⟨j,hj,rfl⟩:=List.getElem_of_mem hy
 have:=(hm.bd hn hes hel ha h0).2 j (by omega) (by have:=hm.1;omega)
 rw[aEh hj]at this
 exact this
end Cf
namespace Cf
open P
theorem aX0 {a:List Int} (h0:a.sum=0):(aNa a).sum=0:=by
 rw[aI9 a.length (aNa a) (aKe a),aDg (g:=λi:Nat=>- rd a (i:Int)) (λi hi=>(aG4 a.length _).2 i (by omega) (by omega))]
 rw[aI9 a.length a rfl]at h0
 have h3:aEg a.length (λi=>- rd a (i:Int))+aEg a.length (λi=>rd a (i:Int))=0:=by
  rw[<-aFm]
  have:=aEr a.length
  rw[<-this]
  apply aDg
  intro i _
  omega
 omega
section
variable {n:Nat} {es:List E}
theorem rdP {a b:List Int} (ha:a.length=n) {v:Int} (h0:0<=v) (h1:v<n):rd (aH8 a b) v=rd a v+rd b v:=(aG4 a.length λw=>rd a w+rd b w).2 v h0 (by omega)
theorem rdM {a:List Int} (ha:a.length=n) {v:Int} (h0:0<=v) (h1:v<n):rd (aNa a) v=- rd a v:=(aG4 a.length λw=>- rd a w).2 v h0 (by omega)
theorem aWw {a b:List Int} (ha:a.length=n) (hb:b.length=n):(aH8 a b).sum=a.sum+b.sum:=by
 rw[aI9 n _ (by rw[aL6];exact ha),aI9 n a ha,aI9 n b hb,<-aFm]
 exact aDg λi hi=>rdP ha (by omega) (by omega)
theorem aS1 {a b:List Int} (h:a.length=b.length):aH8 a b=aH8 b a:=by
 unfold aH8
 rw[h]
 exact aRx λw _ _=>Int.add_comm _ _
theorem aU5 (h5:n<=5) (g:Gr n es 0) (hg:GOk (n:Int) es) {a:List Int} (ha:a.length=n) (h0:a.sum=0) {k:Int} {x:List Int} (h:Mul n es a k x):zOk (n:Int) es x=true:=by
 have hb:=h.bd ⟨g.n1,g.n6⟩ g.hes g.hel ha h0
 have hl:=h.1
 have hp:=h.2.1.1
 have n1:=g.n1
 have key:∀ y∈x,-60<=y/\y<=60:=by
  have hs:=aI9 n x hl
  have h2:∀ v:Int,0<=v->v<n->v≠0->0<=rd x v/\rd x v<=11:=λv v0 v1 v2=>⟨hp v v0 v1 v2,(hb.2 v v0 v1).2⟩
  intro y hy
  obtain⟨i,hi,rfl⟩:=List.getElem_of_mem hy
  rw[<-aEh hi]
  by_cases e:i=0
  ·subst e
   have h3:aEg n (λi=>rd x (i:Int))=rd x 0+aEg (n-1) (λi=>rd x ((i+1:Nat):Int)):=by
    obtain⟨m,rfl⟩:∃ m,n=m+1:=⟨n-1,by omega⟩
    rw[Nat.add_sub_cancel]
    have step:∀ (k:Nat) (f:Nat->Int),aEg (k+1) f=f 0+aEg k (λi=>f (i+1)):=by
     intro k
     induction k with
     | zero=>intro f;show (0:Int)+f 0=f 0+0;omega
     | succ k ih =>
      intro f
      show aEg (k+1) f+f (k+1)=f 0+(aEg k (λi=>f (i+1))+f (k+1))
      rw[ih f]
      omega
    exact step m _
   have h4:aEg (n-1) (λi=>rd x ((i+1:Nat):Int))<=((n-1:Nat):Int)*11:=aG3 λi hi=>(h2 _ (by omega) (by omega) (by omega)).2
   have h5':0<=aEg (n-1) (λi=>rd x ((i+1:Nat):Int)):=aKx λi hi=>(h2 _ (by omega) (by omega) (by omega)).1
   rw[hb.1]at hs
   rw[h3]at hs
   show -60<=rd x 0/\rd x 0<=60
   omega
  ·have:=h2 (i:Int) (by omega) (by omega) (by omega)
   omega
 unfold zOk
 rw[Bool.and_eq_true]
 exact⟨aJp.2 ⟨hg,by omega,key⟩,by simpa using hb.1⟩
theorem aGv {a:List Int} (h:zOk (n:Int) es a=true):a.length=n/\Bd a 60/\a.sum=0:=by
 obtain⟨m,e,_,h1,h2,h3⟩:=aMx h
 exact⟨by omega,h2,h3⟩
theorem aQ5 (h5:n<=5) (g:Gr n es 0) (hg:GOk (n:Int) es) {a b:List Int} (ha:zOk (n:Int) es a=true) (hb:zOk (n:Int) es b=true):∃ s,aRt (n:Int) es a b=(s,true)/\Mul n es (aH8 a b) 1 s/\zOk (n:Int) es s=true:=by
 obtain⟨la,ba,sa⟩:=aGv ha
 obtain⟨lb,bb,sb⟩:=aGv hb
 have hl:(aH8 a b).length=n:=by rw[aL6];exact la
 have hM:=Mul.one (aJe g hl ((aQt (by omega) ba bb).mono (by omega)))
 refine⟨_,?_,hM,aU5 h5 g hg hl (by rw[aWw la lb];omega) hM⟩
 unfold aRt
 rw[ha,hb,Int.toNat_natCast]
 rfl
theorem bAu (h5:n<=5) (g:Gr n es 0) (hg:GOk (n:Int) es) {a:List Int} (ha:zOk (n:Int) es a=true):∃ i,aX7 (n:Int) es a=(i,true)/\Mul n es (aNa a) 1 i/\zOk (n:Int) es i=true:=by
 obtain⟨la,ba,sa⟩:=aGv ha
 have hl:(aNa a).length=n:=by rw[aKe];exact la
 have hM:=Mul.one (aJe g hl ((bAf ba).mono (by omega)))
 refine⟨_,?_,hM,aU5 h5 g hg hl (aX0 sa) hM⟩
 unfold aX7
 rw[if_pos ha,Int.toNat_natCast]
theorem bAt (g:Gr n es 0) {b:List Int} (hb:zOk (n:Int) es b=true):Mul n es b 1 (aF3 n es 0 b).1:=by
 obtain⟨lb,bb,sb⟩:=aGv hb
 exact Mul.one (aJe g lb (bb.mono (by omega)))
theorem aXk (g:Gr n es 0) {a b s i r:List Int} (ha:a.length=n) (hs:Mul n es (aH8 a b) 1 s) (hi:Mul n es (aNa a) 1 i) (hr:Mul n es (aH8 s i) 1 r):Mul n es b 1 r:=by
 obtain⟨sl,_,u,hu⟩:=hs
 obtain⟨_,_,v,hv⟩:=hi
 obtain⟨rl,rr,w,hw⟩:=hr
 refine⟨rl,rr,λx=>u x+v x+w x,λx x0 x1=>?_⟩
 have h1:=hu x x0 x1
 have h2:=hv x x0 x1
 have h3:=hw x x0 x1
 rw[rdP ha x0 x1]at h1
 rw[rdM ha x0 x1]at h2
 rw[rdP sl x0 x1]at h3
 rw[aFt,aFt]
 omega
theorem aXj (g:Gr n es 0) {a i r:List Int} (ha:a.length=n) (hi:Mul n es (aNa a) 1 i) (hr:Mul n es (aH8 a i) 1 r):r=List.replicate n 0:=by
 obtain⟨_,_,v,hv⟩:=hi
 obtain⟨rl,rr,w,hw⟩:=hr
 have h:Mul n es a 0 r:=by
  refine⟨rl,rr,λx=>v x+w x,λx x0 x1=>?_⟩
  have h2:=hv x x0 x1
  have h3:=hw x x0 x1
  rw[rdM ha x0 x1]at h2
  rw[rdP ha x0 x1]at h3
  rw[aFt]
  omega
 have hz:Red n es 0 (rd (List.replicate n 0)):=aWp g.hj g.hq (λv _ _=>aGg n v) g.hes
 exact h.unique g.n1 g.hes (Mul.zero hz)
end
end Cf
namespace Cf
def alt:Nat->(Nat->Int)->Int
 | 0,_=>0
 | n+1,g=>g 0-alt n λi=>g (i+1)
theorem aFr:∀ {n:Nat} {f g:Nat->Int},(∀ i,i<n->f i=g i)->alt n f=alt n g
 | 0,_,_,_=>rfl
 | n+1,f,g,h=>by
  unfold alt
  rw[h 0 (by omega),aFr (n:=n) (f:=λi=>f (i+1)) (g:=λi=>g (i+1)) λi hi=>h (i+1) (by omega)]
theorem aRk {n:Nat} {g:Nat->Int} (h:∀ i,i<n->g i=0):alt n g=0:=by
 induction n generalizing g with
 | zero=>rfl
 | succ n ih =>
  unfold alt
  rw[h 0 (by omega),ih λi hi=>h (i+1) (by omega)]
  rfl
theorem bEz {n:Nat} {g:Nat->Int} {C:Int} (h:∀ i,i<n→-C<=g i/\g i<=C):-(n*C)<=alt n g/\alt n g<=n*C:=by
 induction n generalizing g with
 | zero=>simp[alt]
 | succ n ih =>
  have h0:=h 0 (by omega)
  have h1:=ih (g:=λi=>g (i+1)) λi hi=>h (i+1) (by omega)
  unfold alt
  have e:((n+1:Nat):Int)*C=n*C+C:=by rw[Int.natCast_add,Int.add_mul];simp
  omega
theorem bBn (n:Nat) (f g:Nat->Int):alt n (λi=>f i+g i)=alt n f+alt n g:=by
 induction n generalizing f g with
 | zero=>rfl
 | succ n ih =>
  unfold alt
  rw[ih (λi=>f (i+1)) (λi=>g (i+1))]
  show f 0+g 0-_=_
  omega
theorem aQ8 (n:Nat) (c:Int) (f:Nat->Int):alt n (λi=>c*f i)=c*alt n f:=by
 induction n generalizing f with
 | zero=>simp[alt]
 | succ n ih =>
  unfold alt
  rw[ih (λi=>f (i+1)),Int.mul_sub]
def ent (M:List (List Int)) (r c:Int):Int:=rd (M.getD r.toNat []) c
def aKj (M:List (List Int)):List Int->List Int->Int
 | [],_=>1
 | r::rs,cs=>alt cs.length λi=>ent M r (cs.getD i 0)*aKj M rs (cs.eraseIdx i)
theorem aYo {a b A B:Int} (ha:-A<=a/\a<=A) (hb:-B<=b/\b<=B):-(A*B)<=a*b/\a*b<=A*B:=by
 have hA:0<=A:=by omega
 have h1:a.natAbs*b.natAbs<=A.natAbs*B.natAbs:=Nat.mul_le_mul (by omega) (by omega)
 rw[<-Int.natAbs_mul,<-Int.natAbs_mul]at h1
 have h2:0<=A*B:=Int.mul_nonneg (by omega) (by omega)
 omega
theorem aUu {M:List (List Int)} {B:Int} (hB:0<=B) (hM:∀ r c,-B<=ent M r c/\ent M r c<=B):∀ (rs cs:List Int),cs.length<=6→-((6*B)^rs.length)<=aKj M rs cs/\aKj M rs cs<=(6*B)^rs.length
 | [],cs,_=>by simp[aKj]
 | r::rs,cs,hc=>by
  have h:=bEz (n:=cs.length) (g:=λi=>ent M r (cs.getD i 0)*aKj M rs (cs.eraseIdx i)) (C:=B*(6*B)^rs.length) λi hi =>
   aYo (hM _ _) (aUu hB hM rs (cs.eraseIdx i) (by have:=List.length_eraseIdx_le cs i;omega))
  have hp:0<=B*(6*B)^rs.length:=Int.mul_nonneg hB (Int.pow_nonneg (by omega))
  have e:(6*B)^(r::rs).length=6*(B*(6*B)^rs.length):=by
   rw[List.length_cons,Int.pow_succ,Int.mul_comm,Int.mul_assoc]
  have h6:(cs.length:Int)*(B*(6*B)^rs.length)<=6*(B*(6*B)^rs.length):=Int.mul_le_mul_of_nonneg_right (by omega) hp
  rw[e]
  unfold aKj
  omega
abbrev Col:=Int->Int
def z0:Col:=λ_=>0
def aH9:List Int->List Col->Int
 | [],_=>1
 | r::rs,cs=>alt cs.length λi=>(cs.getD i z0) r*aH9 rs (cs.eraseIdx i)
def sg:Nat->Int
 | 0=>1
 | n+1=>- sg n
theorem aYk (n:Nat):sg (n+2)=sg n:=by simp[sg]
theorem bA2 (n:Nat):sg (n+n)=1:=by
 induction n with
 | zero=>rfl
 | succ n ih=>rw[show n+1+(n+1)=n+n+2 by omega,aYk,ih]
theorem bBm (n:Nat) (g:Nat->Int):alt n (λi=>- g i)=- alt n g:=by
 have h:=aQ8 n (-1) g
 simpa using h
theorem aHp:∀ (j n:Nat) (g:Nat->Int),j<=n->alt (n+1) g=sg j*g j+alt n (λk=>if k<j then g k else-g (k+1))
 | 0,n,g,_=>by
  have h:=bBm n λk=>g (k+1)
  show g 0-alt n (λi=>g (i+1))=1*g 0+alt n (λk=>if k<0 then g k else-g (k+1))
  rw[aFr (f:=λk=>if k<0 then g k else-g (k+1)) (g:=λk=>- g (k+1)) λi _=>if_neg (by omega),h]
  omega
 | j+1,0,g,h=>by omega
 | j+1,n+1,g,h=>by
  have ih:=aHp j n (λi=>g (i+1)) (by omega)
  show g 0-alt (n+1) (λi=>g (i+1))=_
  rw[ih]
  have e:alt (n+1) (λk=>if k<j+1 then g k else-g (k+1))=g 0-alt n (λk=>if k<j then g (k+1) else-g (k+1+1)):=by
   show (if 0<j+1 then g 0 else _)-alt n (λk=>if k+1<j+1 then g (k+1) else-g (k+1+1))=_
   rw[if_pos (by omega)]
   congr 1
   refine aFr λi _=>?_
   by_cases c:i<j
   ·rw[if_pos c,if_pos (by omega)]
   ·rw[if_neg c,if_neg (by omega)]
  rw[e]
  show _=- sg j*g (j+1)+_
  rw[Int.neg_mul]
  omega
theorem bBl {n p:Nat} (hp:p+1<n) {g:Nat->Int} (h:∀ i,i<n->i≠p->i≠p+1->g i=0) (he:g p=g (p+1)):alt n g=0:=by
 obtain⟨m,rfl⟩:∃ m,n=m+2:=⟨n-2,by omega⟩
 rw[aHp p (m+1) g (by omega),aHp p m _ (by omega),if_neg (by omega),<-he,aRk λi hi=>?_]
 ·rw[Int.mul_neg];omega
 ·by_cases c:i<p
  ·rw[if_pos c,if_pos c,h i (by omega) (by omega) (by omega)]
  ·rw[if_neg c,if_neg (by omega),h (i+1+1) (by omega) (by omega) (by omega)]
   simp
theorem getD_erase {α:Type} (l:List α) (i j:Nat) (d:α):(l.eraseIdx i).getD j d=l.getD (if j<i then j else j+1) d:=by
 rw[zdG,List.getElem?_eraseIdx,zdG]
 split<;>rfl
theorem aLj {α:Type} (l:List α) {j k:Nat} (h:k<j):(l.eraseIdx k).eraseIdx (j-1)=(l.eraseIdx j).eraseIdx k:=by
 apply List.ext_getElem?
 intro i
 simp only[List.getElem?_eraseIdx]
 by_cases a:i<k
 ·rw[if_pos (show i<j-1 by omega),if_pos a,if_pos a,if_pos (show i<j by omega)]
 ·by_cases b:i<j-1
  ·rw[if_pos b,if_neg a,if_neg a,if_pos (by omega)]
  ·rw[if_neg b,if_neg a,if_neg (show ¬ i+1<k by omega),if_neg (show ¬ i+1<j by omega)]
theorem aFn {α:Type} (l:List α) (p:Nat) (x:α):(l.set p x).eraseIdx p=l.eraseIdx p:=by
 apply List.ext_getElem?
 intro i
 simp only[List.getElem?_eraseIdx,List.getElem?_set]
 split
 ·rw[if_neg (by omega)]
 ·rw[if_neg (by omega)]
theorem aFp {α:Type} (l:List α) {p i:Nat} (h:i<p) (x:α):(l.set p x).eraseIdx i=(l.eraseIdx i).set (p-1) x:=by
 apply List.ext_getElem?
 intro k
 simp only[List.getElem?_eraseIdx,List.getElem?_set,List.length_eraseIdx]
 by_cases a:k<i
 ·rw[if_pos a,if_neg (by omega),if_neg (by omega),if_pos a]
 ·rw[if_neg a]
  by_cases b:p=k+1
  ·rw[if_pos b,if_pos (show p-1=k by omega)]
   by_cases c:p<l.length
   ·rw[if_pos c,if_pos (by split<;>omega)]
   ·rw[if_neg c,if_neg (by split<;>omega)]
  ·rw[if_neg b,if_neg (show ¬ p-1=k by omega),if_neg a]
theorem aFq {α:Type} (l:List α) {p i:Nat} (h:p<i) (x:α):(l.set p x).eraseIdx i=(l.eraseIdx i).set p x:=by
 apply List.ext_getElem?
 intro k
 simp only[List.getElem?_eraseIdx,List.getElem?_set,List.length_eraseIdx]
 by_cases a:k<i
 ·rw[if_pos a,if_pos a]
  by_cases b:p=k
  ·rw[if_pos b,if_pos b]
   by_cases c:p<l.length
   ·rw[if_pos c,if_pos (by split<;>omega)]
   ·rw[if_neg c,if_neg (by split<;>omega)]
  ·rw[if_neg b,if_neg b]
 ·rw[if_neg a,if_neg a,if_neg (by omega),if_neg (by omega)]
theorem aDm {α:Type} (l:List α) (p i:Nat) (x d:α):(l.set p x).getD i d=if i=p/\p<l.length then x else l.getD i d:=by
 rw[zdG,List.getElem?_set,zdG]
 by_cases c:p=i
 ·subst c
  by_cases b:p<l.length
  ·rw[if_pos rfl,if_pos b,if_pos ⟨rfl,b⟩];rfl
  ·rw[if_pos rfl,if_neg b,if_neg (by omega),List.getElem?_eq_none (by omega)]
 ·rw[if_neg c,if_neg (by omega)]
theorem aHy {rs:List Int}:∀ {cs ds:List Col},cs.length=ds.length->(∀ i,i<cs.length->∀ r∈rs,(cs.getD i z0) r=(ds.getD i z0) r)->aH9 rs cs=aH9 rs ds:=by
 induction rs with
 | nil=>intro cs ds _ _;rfl
 | cons r rs ih =>
  intro cs ds hl h
  unfold aH9
  rw[<-hl]
  refine aFr λi hi=>?_
  rw[h i hi r List.mem_cons_self]
  congr 1
  refine ih (by rw[List.length_eraseIdx,List.length_eraseIdx,hl]) λk hk r' hr'=>?_
  rw[getD_erase,getD_erase]
  have:(cs.eraseIdx i).length=cs.length-1:=by rw[List.length_eraseIdx,if_pos hi]
  exact h _ (by split<;>omega) r' (List.mem_cons_of_mem _ hr')
theorem aKk (u w:Col) (t:Int):∀ {rs:List Int} {cs:List Col} {p:Nat},rs.length=cs.length->p<cs.length->aH9 rs (cs.set p λr=>u r+t*w r)=aH9 rs (cs.set p u)+t*aH9 rs (cs.set p w)
 | [],cs,p,h,hp=>by simp at h;omega
 | r::rs,cs,p,h,hp=>by
  unfold aH9
  simp only[List.length_set]
  rw[<-aQ8,<-bBn]
  refine aFr λi hi=>?_
  by_cases c:i=p
  ·subst c
   rw[aFn,aFn,aFn,aDm,aDm,aDm,if_pos ⟨rfl,hp⟩,if_pos ⟨rfl,hp⟩,if_pos ⟨rfl,hp⟩,Int.add_mul,Int.mul_assoc]
  ·have hl:(cs.eraseIdx i).length=cs.length-1:=by rw[List.length_eraseIdx,if_pos hi]
   have hr:rs.length=cs.length-1:=by simp at h;omega
   rw[aDm,aDm,aDm,if_neg (by omega),if_neg (by omega),if_neg (by omega)]
   by_cases d:i<p
   ·rw[aFp _ d,aFp _ d,aFp _ d,aKk u w t (by omega) (by omega),Int.mul_add,Int.mul_left_comm]
   ·rw[aFq _ (by omega),aFq _ (by omega),aFq _ (by omega),aKk u w t (by omega) (by omega),Int.mul_add,Int.mul_left_comm]
theorem aJ2:∀ {rs:List Int} {cs:List Col} {p:Nat},rs.length=cs.length->p+1<cs.length->cs.getD p z0=cs.getD (p+1) z0->aH9 rs cs=0
 | [],cs,p,h,hp,_=>by simp at h;omega
 | r::rs,cs,p,h,hp,he=>by
  unfold aH9
  refine bBl hp (λi hi h1 h2=>?_) ?_
  ·have hl:(cs.eraseIdx i).length=cs.length-1:=by rw[List.length_eraseIdx,if_pos hi]
   have hr:rs.length=cs.length-1:=by simp at h;omega
   by_cases d:i<p
   ·rw[aJ2 (p:=p-1) (by omega) (by omega) (by rw[getD_erase,getD_erase,if_neg (by omega),if_neg (by omega),show p-1+1=p by omega];exact he),Int.mul_zero]
   ·rw[aJ2 (p:=p) (by omega) (by omega) (by rw[getD_erase,getD_erase,if_pos (by omega),if_pos (by omega)];exact he),Int.mul_zero]
  ·have e:cs.eraseIdx p=cs.eraseIdx (p+1):=by
    apply List.ext_getElem?
    intro k
    simp only[List.getElem?_eraseIdx]
    by_cases a:k<p
    ·rw[if_pos a,if_pos (by omega)]
    ·by_cases b:k=p
     ·subst b
      rw[if_neg (by omega),if_pos (by omega)]
      rw[zdG,zdG,zdH (show k<cs.length by omega),zdH (show k+1<cs.length by omega)]at he
      rw[zdH (show k<cs.length by omega),zdH (show k+1<cs.length by omega)]
      simp only[Option.getD_some]at he
      rw[he]
     ·rw[if_neg (by omega),if_neg (by omega)]
   rw[he,e]
theorem set_self {α:Type} {l:List α} {p:Nat} (d:α) (hp:p<l.length):l.set p (l.getD p d)=l:=by
 apply List.ext_getElem?
 intro i
 rw[List.getElem?_set]
 by_cases c:p=i
 ·subst c
  rw[if_pos rfl,if_pos hp,zdG,zdH hp];rfl
 ·rw[if_neg c]
theorem aL1 {α:Type} (l:List α) {p q:Nat} (h:p≠q) (x y:α):(l.set p x).set q y=(l.set q y).set p x:=List.set_comm x y h
theorem aKl {rs:List Int} {cs:List Col} {p:Nat} (u w:Col) (h:rs.length=cs.length) (hp:p<cs.length):aH9 rs (cs.set p λr=>u r+w r)=aH9 rs (cs.set p u)+aH9 rs (cs.set p w):=by
 have:=aKk u w 1 h hp
 simpa using this
theorem aUv {rs:List Int} {cs:List Col} {p:Nat} (h:rs.length=cs.length) (hp:p+1<cs.length) (x y:Col):aH9 rs ((cs.set p x).set (p+1) y)=- aH9 rs ((cs.set p y).set (p+1) x):=by
 have hz:∀ z:Col,aH9 rs ((cs.set p z).set (p+1) z)=0:=λz=>by
  refine aJ2 (p:=p) (by simpa using h) (by simpa using hp) ?_
  rw[aDm,aDm,if_neg (by omega),aDm,if_pos ⟨rfl,by omega⟩,if_pos ⟨rfl,by simpa using hp⟩]
 have h1:=hz λr=>x r+y r
 have a1:∀ z:Col,aH9 rs ((cs.set p λr=>x r+y r).set (p+1) z)=aH9 rs ((cs.set p x).set (p+1) z)+aH9 rs ((cs.set p y).set (p+1) z):=λz=>by
  rw[aL1 cs (by omega) _ z,aKl x y (by simpa using h) (by rw[List.length_set];omega),aL1 cs (by omega) z x,aL1 cs (by omega) z y]
 rw[aKl x y (by simpa using h) (by simpa using hp),a1 x,a1 y,hz x,hz y]at h1
 omega
theorem aLm {rs:List Int}:∀ (d:Nat) {cs:List Col} {p:Nat},rs.length=cs.length->p+d+1<cs.length->cs.getD p z0=cs.getD (p+d+1) z0->aH9 rs cs=0
 | 0,cs,p,h,hp,he=>aJ2 h hp he
 | d+1,cs,p,h,hp,he=>by
  have e:cs=(cs.set (p+d+1) (cs.getD (p+d+1) z0)).set (p+d+1+1) (cs.getD (p+d+2) z0):=by
   rw[set_self z0 (by omega),set_self z0 (by omega)]
  rw[e,aUv h (by omega),aLm d (p:=p) (by simpa using h) (by rw[List.length_set,List.length_set];omega),Int.neg_zero]
  rw[aDm,if_neg (by omega),aDm,if_neg (by omega),aDm,if_neg (by omega),aDm,if_pos ⟨rfl,by omega⟩]
  exact he
theorem aOx {rs:List Int} {cs:List Col} {p:Nat} (h:rs.length=cs.length) (hp:p<cs.length):aH9 rs (cs.set p z0)=0:=by
 have h1:=aKl (p:=p) z0 z0 h hp
 have e:(λr=>z0 r+z0 r)=z0:=rfl
 rw[e]at h1
 omega
theorem aOy {rs:List Int} {cs:List Col} {p:Nat} (h:rs.length=cs.length) (hp:p<cs.length):∀ (L:List (Int×Nat)),(∀ x∈L,x.2<cs.length/\x.2≠p)->aH9 rs (cs.set p λr=>(L.map λx=>x.1*(cs.getD x.2 z0) r).sum)=0
 | [],_=>aOx h hp
 | x::L,hL=>by
  have hx:=hL x List.mem_cons_self
  have e:(λr=>((x::L).map λy=>y.1*(cs.getD y.2 z0) r).sum)=λr=>(L.map λy=>y.1*(cs.getD y.2 z0) r).sum+x.1*(cs.getD x.2 z0) r:=by
   funext r
   rw[List.map_cons,List.sum_cons,Int.add_comm]
  rw[e,aKk _ _ _ h hp,aOy h hp L λy hy=>hL y (List.mem_cons_of_mem _ hy)]
  have:aH9 rs (cs.set p (cs.getD x.2 z0))=0:=by
   by_cases c:x.2<p
   ·refine aLm (p-x.2-1) (p:=x.2) (by simpa using h) (by rw[List.length_set];omega) ?_
    rw[aDm,if_neg (by omega),show x.2+(p-x.2-1)+1=p by omega,aDm,if_pos ⟨rfl,hp⟩]
   ·refine aLm (x.2-p-1) (p:=p) (by simpa using h) (by rw[List.length_set];omega) ?_
    rw[show p+(x.2-p-1)+1=x.2 by omega,aDm,if_pos ⟨rfl,hp⟩,aDm,if_neg (by omega)]
  rw[this]
  simp
structure Rec (c:Int) (F:List E->List Int->Int):Prop where
 perm:∀ {es es':List E} {vs:List Int},es.Perm es'->F es vs=F es' vs
 nil:F [] []=1
 loop:∀ (e:E) (es:List E) (vs:List Int),vs.Nodup->e.f0∉vs->e.f1∉vs->F (e::es) vs=c*F es vs
 cut:∀ (e:E) (es:List E) (vs:List Int) (u v:Int),(e.f0=u/\e.f1=v)∨(e.f0=v/\e.f1=u)->(∀ x∈es,x.f0≠x.f1)->vs.Nodup->v∈vs->u∉vs->F (e::es) vs=F es vs+F es (vs.erase v)
 far:∀ (es:List E) (vs:List Int),(∀ x∈es,x.f0≠x.f1)->vs.Nodup->vs≠[]->(∀ e∈es,e.f0∈vs↔e.f1∈vs)->F es vs=0
structure bF5 (c:Int) (R:List E->List Int->Int->Prop):Prop where
 perm:∀ {es es':List E} {vs:List Int} {k:Int},es.Perm es'->R es vs k->R es' vs k
 nil:R [] [] 1
 loop:∀ (e:E) (es:List E) (vs:List Int) (k:Int),vs.Nodup->e.f0∉vs->e.f1∉vs->R es vs k->R (e::es) vs (c*k)
 cut:∀ (e:E) (es:List E) (vs:List Int) (u v k k':Int),(e.f0=u/\e.f1=v)∨(e.f0=v/\e.f1=u)->(∀ x∈es,x.f0≠x.f1)->vs.Nodup->v∈vs->u∉vs->R es vs k->R es (vs.erase v) k'->R (e::es) vs (k+k')
 far:∀ (es:List E) (vs:List Int),(∀ x∈es,x.f0≠x.f1)->vs.Nodup->vs≠[]->(∀ e∈es,e.f0∈vs↔e.f1∈vs)->R es vs 0
theorem bF5.of {c:Int} {F:List E->List Int->Int} {R:List E->List Int->Int->Prop} (hF:Rec c F) (hR:bF5 c R):∀ (m:Nat) (es:List E) (vs:List Int),es.length=m->(∀ x∈es,x.f0≠x.f1)->vs.Nodup->R es vs (F es vs):=by
 intro m
 induction m with
 | zero =>
  intro es vs hm hl hn
  obtain rfl:=List.length_eq_zero_iff.1 hm
  by_cases h:vs=[]
  ·rw[h,hF.nil];exact hR.nil
  ·rw[hF.far [] vs hl hn h (λe he=>by cases he)];exact hR.far [] vs hl hn h (λe he=>by cases he)
 | succ m ih =>
  intro es vs hm hl hn
  by_cases h:∃ e∈es,∃ u v:Int,((e.f0=u/\e.f1=v)∨(e.f0=v/\e.f1=u))/\v∈vs/\u∉vs
  ·obtain⟨e,he,u,v,huv,hv,hu⟩:=h
   obtain⟨l1,l2,rfl⟩:=List.append_of_mem he
   have hp:(l1++e::l2).Perm (e::(l1++l2)):=List.perm_middle
   have hl':∀ x∈l1++l2,x.f0≠x.f1:=λx hx=>hl x (by simp at hx ⊢;rcases hx with h|h<;>simp[h])
   have hm':(l1++l2).length=m:=by simp at hm ⊢;omega
   rw[hF.perm hp,hF.cut e _ vs u v huv hl' hn hv hu]
   exact hR.perm hp.symm (hR.cut e _ vs u v _ _ huv hl' hn hv hu (ih _ vs hm' hl' hn) (ih _ (vs.erase v) hm' hl' (hn.erase v)))
  ·have bE0:∀ e∈es,e.f0∈vs↔e.f1∈vs:=λe he=>⟨λh0=>Classical.byContradiction λh1=>h ⟨e,he,e.f1,e.f0,.inr ⟨rfl,rfl⟩,h0,h1⟩,λh1=>Classical.byContradiction λh0=>h ⟨e,he,e.f0,e.f1,.inl ⟨rfl,rfl⟩,h1,h0⟩⟩
   by_cases hv:vs=[]
   ·subst hv
    cases es with
    | nil=>simp at hm
    | cons e es =>
     rw[hF.loop e es [] (by simp) (by simp) (by simp)]
     exact hR.loop e es [] _ (by simp) (by simp) (by simp) (ih es [] (by simpa using hm) (λx hx=>hl x (List.mem_cons_of_mem _ hx)) hn)
   ·rw[hF.far es vs hl hn hv bE0]
    exact hR.far es vs hl hn hv bE0
theorem Rec.unique {c:Int} {F G:List E->List Int->Int} (hF:Rec c F) (hG:Rec c G) {es:List E} {vs:List Int} (hl:∀ x∈es,x.f0≠x.f1) (hn:vs.Nodup):G es vs=F es vs :=
 bF5.of hF (R:=λes vs k=>G es vs=k) ⟨λh k=>(hG.perm h).symm.trans k,hG.nil,λe es vs k hn h0 h1 h=>by rw[hG.loop e es vs hn h0 h1,h],λe es vs u v k k' huv hl hn hv hu h h'=>by rw[hG.cut e es vs u v huv hl hn hv hu,h,h'],hG.far⟩ es.length es vs rfl hl hn
def aKu (v:Int):Col:=λr=>if r=v then 1 else 0
theorem aLl {v:Int}:∀ {rs:List Int} {cs:List Col} {i p:Nat},rs.length=cs.length->p<cs.length->rs.Nodup->rs[i]? = some v->aH9 rs (cs.set p (aKu v))=sg (i+p)*aH9 (rs.eraseIdx i) (cs.eraseIdx p)
 | [],_,i,p,h,hp,_,hi=>by simp at hi
 | r::rs,cs,0,p,h,hp,hn,hi=>by
  obtain rfl:r=v:=by simpa using hi
  have hv:r∉rs:=(List.nodup_cons.1 hn).1
  obtain⟨n,hcn⟩:∃ n,cs.length=n+1:=⟨cs.length-1,by omega⟩
  have hrl:rs.length=n:=by simp at h;omega
  have hz:∀ k,k<cs.length->k≠p->aH9 rs ((cs.set p (aKu r)).eraseIdx k)=0:=λk hk hkp=>by
   have hl:(cs.eraseIdx k).length=cs.length-1:=by rw[List.length_eraseIdx,if_pos hk]
   have key:∀ q:Nat,q<(cs.eraseIdx k).length->aH9 rs ((cs.eraseIdx k).set q (aKu r))=0:=λq hq=>by
    rw[<-aOx (rs:=rs) (cs:=cs.eraseIdx k) (p:=q) (by omega) hq]
    refine aHy (by simp) λj hj s hs=>?_
    rw[aDm,aDm]
    split
    ·show (if s=r then (1:Int) else 0)=0
     rw[if_neg (λe:s=r=>hv (e▸hs))]
    ·rfl
   by_cases d:k<p
   ·rw[aFp _ d];exact key _ (by omega)
   ·rw[aFq _ (by omega)];exact key _ (by omega)
  show alt (cs.set p (aKu r)).length (λi=>((cs.set p (aKu r)).getD i z0) r*aH9 rs ((cs.set p (aKu r)).eraseIdx i))=sg (0+p)*aH9 rs (cs.eraseIdx p)
  rw[List.length_set,hcn,aHp p n _ (by omega),aRk λk hk=>?_]
  ·rw[aDm,if_pos ⟨rfl,hp⟩,aFn]
   show sg p*((if r=r then (1:Int) else 0)*aH9 rs (cs.eraseIdx p))+0=sg (0+p)*aH9 rs (cs.eraseIdx p)
   rw[if_pos rfl,Int.one_mul,Int.add_zero,Nat.zero_add]
  ·split
   ·rw[hz k (by omega) (by omega),Int.mul_zero]
   ·rw[hz (k+1) (by omega) (by omega),Int.mul_zero];rfl
 | r::rs,cs,i+1,p,h,hp,hn,hi=>by
  have hi':rs[i]? = some v:=by simpa using hi
  have hrv:r≠v:=λe=>(List.nodup_cons.1 hn).1 (e▸List.mem_of_getElem? hi')
  obtain⟨n,hcn⟩:∃ n,cs.length=n+1:=⟨cs.length-1,by omega⟩
  have hrl:rs.length=n:=by simp at h;omega
  have hcp:(cs.eraseIdx p).length=n:=by rw[List.length_eraseIdx,if_pos hp];omega
  rw[List.eraseIdx_cons_succ]
  show alt (cs.set p (aKu v)).length (λk=>((cs.set p (aKu v)).getD k z0) r*aH9 rs ((cs.set p (aKu v)).eraseIdx k))=sg (i+1+p)*alt (cs.eraseIdx p).length (λk=>((cs.eraseIdx p).getD k z0) r*aH9 (rs.eraseIdx i) ((cs.eraseIdx p).eraseIdx k))
  rw[List.length_set,hcn,hcp,aHp p n _ (by omega),aDm,if_pos ⟨rfl,hp⟩,<-aQ8]
  have e0:aKu v r=0:=if_neg hrv
  rw[e0,Int.zero_mul,Int.mul_zero,Int.zero_add]
  refine aFr λk hk=>?_
  by_cases d:k<p
  ·have hl:(cs.eraseIdx k).length=n:=by rw[List.length_eraseIdx,if_pos (by omega)];omega
   rw[if_pos d,aDm,if_neg (by omega),aFp _ d,aLl (by omega) (by omega) (List.nodup_cons.1 hn).2 hi',aLj _ d,getD_erase,if_pos d]
   have hs:sg (i+(p-1))=sg (i+1+p):=by rw[show i+1+p=i+(p-1)+2 by omega,aYk]
   rw[hs,Int.mul_left_comm]
  ·have hl:(cs.eraseIdx (k+1)).length=n:=by rw[List.length_eraseIdx,if_pos (by omega)];omega
   have he:=aLj cs (j:=k+1) (k:=p) (by omega)
   rw[if_neg d,aDm,if_neg (by omega),aFq _ (by omega),aLl (by omega) (by omega) (List.nodup_cons.1 hn).2 hi',<-he,getD_erase,if_neg d,show k+1-1=k by omega]
   have hs:sg (i+1+p)=- sg (i+p):=by rw[show i+1+p=(i+p)+1 by omega];rfl
   rw[hs,Int.mul_left_comm,Int.neg_mul]
def aH6 (es:List E) (r c:Int):Int:=if r=c then val es r else-mult es r c
def aJo (es:List E) (vs:List Int):Int:=aH9 vs (vs.map λc r=>aH6 es r c)
theorem aKy {es es':List E} (h:es.Perm es') (f:E->Int):aHd es f=aHd es' f:=by
 induction h with
 | nil=>rfl
 | cons x _ ih=>rw[aD0,aD0,ih]
 | swap x y l=>rw[aD0,aD0,aD0,aD0];omega
 | trans _ _ h1 h2=>exact h1.trans h2
theorem aU9 {es es':List E} (h:es.Perm es'):aH6 es=aH6 es':=by
 funext r c
 unfold aH6 val mult
 rw[aKy h,aKy h]
theorem aIz (e:E) (es:List E) (r c:Int):aH6 (e::es) r c=(if r=c then aJa r e else-aEx r c e)+aH6 es r c:=by
 unfold aH6 val mult
 rw[aD0,aD0]
 split<;>omega
theorem getD_map {α β:Type} (f:α->β) (l:List α) (i:Nat) (d:α) (d':β) (h:i<l.length):(l.map f).getD i d'=f (l.getD i d):=by
 rw[zdG,List.getElem?_map,zdG,zdH h]
 rfl
theorem getD_mem {α:Type} {l:List α} {i:Nat} (d:α) (h:i<l.length):l.getD i d∈l:=by
 rw[zdG,zdH h]
 exact List.getElem_mem h
theorem map_eraseIdx {α β:Type} (f:α->β) (l:List α) (i:Nat):(l.map f).eraseIdx i=(l.eraseIdx i).map f:=by
 apply List.ext_getElem?
 intro k
 simp only[List.getElem?_eraseIdx,List.getElem?_map]
 split<;>rfl
theorem aSo {es es':List E} {vs:List Int} (h:∀ r∈vs,∀ c∈vs,aH6 es r c=aH6 es' r c):aJo es vs=aJo es' vs:=by
 unfold aJo
 refine aHy (by simp) λi hi r hr=>?_
 rw[List.length_map]at hi
 rw[getD_map _ _ _ (0:Int) _ hi,getD_map _ _ _ (0:Int) _ hi]
 exact h r hr _ (getD_mem _ hi)
theorem aU3 {l:List Int} (hn:l.Nodup) {i j:Nat} (hi:i<l.length) (hj:j<l.length) (h:l.getD i 0=l.getD j 0):i=j:=by
 rw[zdG,zdG,zdH hi,zdH hj]at h
 simp only[Option.getD_some]at h
 apply Classical.byContradiction
 intro hne
 rcases Nat.lt_or_gt_of_ne hne with hlt|hlt
 ·exact List.pairwise_iff_getElem.1 hn i j hi hj hlt h
 ·exact List.pairwise_iff_getElem.1 hn j i hj hi hlt h.symm
theorem aXp (e:E) (es:List E) {vs:List Int} {u v:Int} (huv:(e.f0=u/\e.f1=v)∨(e.f0=v/\e.f1=u)) (hn:vs.Nodup) (hv:v∈vs) (hu:u∉vs):aJo (e::es) vs=aJo es vs+aJo es (vs.erase v):=by
 obtain⟨p,hp,hpv⟩:=List.getElem_of_mem hv
 have hpd:vs.getD p 0=v:=by rw[zdG,zdH hp];exact hpv
 have hml:(vs.map λc r=>aH6 es r c).length=vs.length:=by simp
 have e1:aJo (e::es) vs=aH9 vs ((vs.map λc r=>aH6 es r c).set p λr=>(λr=>aH6 es r v) r+aKu v r):=by
  unfold aJo
  refine aHy (by simp) λi hi r hr=>?_
  rw[List.length_map]at hi
  rw[getD_map _ _ _ (0:Int) _ hi,aDm,hml]
  have hru:r≠u:=λx=>hu (x▸hr)
  have hcu:vs.getD i 0≠u:=λx=>hu (x▸getD_mem 0 hi)
  by_cases c:i=p
  ·rw[if_pos ⟨c,hp⟩,c,hpd,aIz]
   show _=aH6 es r v+(if r=v then 1 else 0)
   by_cases d:r=v
   ·rw[if_pos d,if_pos d,d]
    have:aJa v e=1:=by unfold aJa;rw[if_pos];rcases huv with h|h<;>omega
    omega
   ·rw[if_neg d,if_neg d]
    have:aEx r v e=0:=by unfold aEx;rw[if_neg];rcases huv with h|h<;>omega
    omega
  ·rw[if_neg (λx=>c x.1),getD_map _ _ _ (0:Int) _ hi,aIz]
   have hcv:vs.getD i 0≠v:=λx=>c (aU3 hn hi hp (x.trans hpd.symm))
   generalize vs.getD i 0=w at hcu hcv
   by_cases d:r=w
   ·rw[if_pos d]
    have:aJa r e=0:=by unfold aJa;rw[if_neg];rcases huv with h|h<;>omega
    omega
   ·rw[if_neg d]
    have:aEx r w e=0:=by unfold aEx;rw[if_neg];rcases huv with h|h<;>omega
    omega
 have e2:(vs.map λc r=>aH6 es r c).set p (λr=>aH6 es r v)=vs.map λc r=>aH6 es r c:=by
  have:=set_self (l:=vs.map λc r=>aH6 es r c) z0 (by rw[hml];exact hp)
  rw[getD_map _ _ _ (0:Int) _ hp,hpd]at this
  exact this
 have e3:vs.eraseIdx p=vs.erase v:=by
  rw[List.erase_eq_eraseIdx_of_idxOf]
  rw[<-hpv]
  exact List.Nodup.idxOf_getElem hn p hp
 rw[e1,aKl _ _ (by simp) (by rw[hml];exact hp),e2,aLl (by simp) (by rw[hml];exact hp) hn (i:=p) (by rw[zdH hp,hpv]),bA2,Int.one_mul,map_eraseIdx,e3]
 rfl
theorem aQl (l:List Int) (f:Int->Int):(l.map λx=>- f x).sum=- (l.map f).sum:=by
 induction l with
 | nil=>rfl
 | cons x l ih=>rw[List.map_cons,List.sum_cons,List.map_cons,List.sum_cons,ih];omega
theorem aNu (l:List Int) {f:Int->Int} (h:∀ x∈l,f x=0):(l.map f).sum=0:=by
 induction l with
 | nil=>rfl
 | cons x l ih=>rw[List.map_cons,List.sum_cons,h x List.mem_cons_self,ih λy hy=>h y (List.mem_cons_of_mem _ hy)];rfl
theorem aR1 {vs:List Int} (hn:vs.Nodup) {r:Int} (hr:r∈vs):∀ {es:List E},(∀ x∈es,x.f0≠x.f1)->(∀ e∈es,e.f0∈vs↔e.f1∈vs)->(vs.map λc=>aH6 es r c).sum=0
 | [],_,_=>aNu _ λx _=>by
  unfold aH6 val mult
  rw[aQn,aQn]
  split<;>rfl
 | e::es,hl,hf=>by
  have ih:=aR1 hn hr (es:=es) (λx hx=>hl x (List.mem_cons_of_mem _ hx)) λx hx=>hf x (List.mem_cons_of_mem _ hx)
  have h0:=hl e List.mem_cons_self
  have h1:=hf e List.mem_cons_self
  have ha:=sum_add vs (λc=>if r=c then aJa r e else-aEx r c e) (λc=>aH6 es r c)
  simp only[<-aIz]at ha
  rw[ha,ih,Int.add_zero]
  have two:∀ x,x≠r->x∈vs->(∀ c,aEx r c e=if c=x then 1 else 0)->aJa r e=1->(vs.map λc=>if r=c then aJa r e else-aEx r c e).sum=0:=by
   intro x hx hxv hm hv
   have e1:(vs.map λc=>if r=c then aJa r e else-aEx r c e)=vs.map λc=>(if r=c then (1:Int) else 0) + - (if x=c then 1 else 0):=by
    refine List.map_congr_left λc _=>?_
    by_cases d:r=c
    ·rw[if_pos d,if_pos d,if_neg (show ¬ x=c by omega),hv];rfl
    ·rw[if_neg d,if_neg d,hm c]
     by_cases d2:c=x
     ·rw[if_pos d2,if_pos d2.symm];rfl
     ·rw[if_neg d2,if_neg (λq=>d2 q.symm)];rfl
   rw[e1,sum_add vs (λc=>if r=c then (1:Int) else 0) (λc=>- (if x=c then 1 else 0)),aQl vs (λc=>if x=c then 1 else 0),aKw r vs hn,aKw x vs hn,if_pos hr,if_pos hxv]
   rfl
  by_cases a:e.f0=r
  ·refine two e.f1 (by omega) (h1.1 (a▸hr)) (λc=>?_) (by unfold aJa;rw[if_pos (.inl a)])
   unfold aEx
   by_cases d:c=e.f1
   ·rw[if_pos d,if_pos (.inl ⟨a,d.symm⟩)]
   ·rw[if_neg d,if_neg (by omega)]
  ·by_cases b:e.f1=r
   ·refine two e.f0 a (h1.2 (b▸hr)) (λc=>?_) (by unfold aJa;rw[if_pos (.inr b)])
    unfold aEx
    by_cases d:c=e.f0
    ·rw[if_pos d,if_pos (.inr ⟨d.symm,b⟩)]
    ·rw[if_neg d,if_neg (by omega)]
   ·refine aNu _ λc _=>?_
    have e1:aJa r e=0:=by unfold aJa;rw[if_neg (by omega)]
    have e2:aEx r c e=0:=by unfold aEx;rw[if_neg (by omega)]
    rw[e1,e2]
    split<;>rfl
theorem aXo {es:List E} {vs:List Int} (hl:∀ x∈es,x.f0≠x.f1) (hn:vs.Nodup) (hv:vs≠[]) (hf:∀ e∈es,e.f0∈vs↔e.f1∈vs):aJo es vs=0:=by
 cases vs with
 | nil=>exact absurd rfl hv
 | cons v vs =>
  have hc:=aOy (rs:=v::vs) (cs:=(v::vs).map λc r=>aH6 es r c) (p:=0) (by simp) (by simp) ((List.range vs.length).map λj=>(-1,j+1)) (λx hx=>by
   obtain⟨j,hj,rfl⟩:=List.mem_map.1 hx
   have:=List.mem_range.1 hj
   simp
   omega)
  rw[<-hc]
  unfold aJo
  refine aHy (by simp) λi hi r hr=>?_
  rw[List.length_map]at hi
  rw[aDm]
  by_cases c:i=0
  ·rw[if_pos ⟨c,by simp⟩,c,getD_map _ _ _ (0:Int) _ (by simp)]
   have hs:=aR1 hn hr hl hf
   rw[List.map_cons,List.sum_cons]at hs
   show aH6 es r v=_
   have e1:(((List.range vs.length).map λj=>((-1:Int),j+1)).map λx=>x.1*(((v::vs).map λc r=>aH6 es r c).getD x.2 z0) r)=vs.map λc=>- aH6 es r c:=by
    rw[List.map_map]
    apply List.ext_getElem (by simp)
    intro j h1 h2
    have hj:j<vs.length:=by simpa using h2
    simp[List.getD,hj]
   rw[e1,aQl vs (λc=>aH6 es r c)]
   omega
  ·rw[if_neg (λx=>c x.1)]
theorem aRc:Rec 1 aJo where
 perm:=λh=>by unfold aJo;rw[aU9 h]
 nil:=rfl
 loop:=λe es vs _ h0 h1=>by
  rw[Int.one_mul]
  refine aSo λr hr c hc=>?_
  rw[aIz]
  have a:e.f0≠r:=λx=>h0 (x▸hr)
  have b:e.f1≠r:=λx=>h1 (x▸hr)
  have e1:aJa r e=0:=by unfold aJa;rw[if_neg (by omega)]
  have e2:aEx r c e=0:=by unfold aEx;rw[if_neg (by omega)]
  rw[e1,e2]
  split<;>omega
 cut:=λe es vs u v huv _ hn hv hu=>aXp e es huv hn hv hu
 far:=λes vs hl hn hv hf=>aXo hl hn hv hf
def Span (A:List E) (vs:List Int):Prop:=∀ v∈vs,∃ u,u∉vs/\aGp A u v
theorem Span.sub {A B:List E} {vs:List Int} (h:Span A vs) (hs:∀ e∈A,e∈B):Span B vs:=λv hv=>by
 obtain⟨u,hu,hc⟩:=h v hv
 exact⟨u,hu,hc.sub hs⟩
theorem aL0 {e:E} {A:List E} {vs:List Int} (h0:e.f0∉vs) (h1:e.f1∉vs):Span (e::A) vs↔Span A vs:=by
 refine⟨λh v hv=>?_,λh=>h.sub λx hx=>List.mem_cons_of_mem _ hx⟩
 obtain⟨u,hu,hc⟩:=h v hv
 have key:∀ x,aGp (e::A) u x->x∈vs->∃ u',u'∉vs/\aGp A u' x:=by
  intro x hx
  induction hx with
  | refl=>exact λh=>absurd h hu
  | tail hy aIi ih =>
   rename_i y x
   intro hxv
   obtain⟨f,hf,hfx⟩:=aIi
   have hfe:f∈A:=by
    rcases List.mem_cons.1 hf with rfl|hf
    ·rcases hfx with h|h
     ·exact absurd (h.2▸hxv) h1
     ·exact absurd (h.1▸hxv) h0
    ·exact hf
   by_cases hyv:y∈vs
   ·obtain⟨u',hu',hc'⟩:=ih hyv
    exact⟨u',hu',hc'.tail ⟨f,hfe,hfx⟩⟩
   ·exact⟨y,hyv,aGp.one ⟨f,hfe,hfx⟩⟩
 exact key v hc hv
theorem aN4 {e:E} {A:List E} {vs:List Int} {u v:Int} (huv:(e.f0=u/\e.f1=v)∨(e.f0=v/\e.f1=u)) (hn:vs.Nodup) (hv:v∈vs) (hu:u∉vs):Span (e::A) vs↔Span A (vs.erase v):=by
 have hve:v∉vs.erase v:=λh=>(hn.mem_erase_iff.1 h).1 rfl
 have hue:u∉vs.erase v:=λh=>hu (List.mem_of_mem_erase h)
 constructor
 ·intro h
  have h2:Span (e::A) (vs.erase v):=λw hw=>by
   obtain⟨x,hx,hc⟩:=h w (List.mem_of_mem_erase hw)
   exact⟨x,λq=>hx (List.mem_of_mem_erase q),hc⟩
  exact(aL0 (by rcases huv with q|q<;>rw[q.1]<;>assumption) (by rcases huv with q|q<;>rw[q.2]<;>assumption)).1 h2
 ·intro h w hw
  have aIi:aGp (e::A) u v:=aGp.one ⟨e,List.mem_cons_self,huv⟩
  by_cases c:w=v
  ·exact⟨u,hu,c▸aIi⟩
  ·obtain⟨x,hx,hc⟩:=h w (hn.mem_erase_iff.2 ⟨c,hw⟩)
   have hc':aGp (e::A) x w:=hc.sub λy hy=>List.mem_cons_of_mem _ hy
   by_cases d:x=v
   ·exact⟨u,hu,aIi.trans (d▸hc')⟩
   ·exact⟨x,λq=>hx (hn.mem_erase_iff.2 ⟨d,q⟩),hc'⟩
theorem aQr {A:List E} {vs:List Int} (hv:vs≠[]) (hf:∀ e∈A,e.f0∈vs↔e.f1∈vs):¬ Span A vs:=λh=>by
 cases vs with
 | nil=>exact hv rfl
 | cons v vs =>
  obtain⟨u,hu,hc⟩:=h v List.mem_cons_self
  have:(λx=>x∉v::vs) v:=hc.closed (S:=λx=>x∉v::vs) (λa b ha hab hb=>by
   obtain⟨e,he,hx⟩:=hab
   have:=hf e he
   rcases hx with ⟨x0,x1⟩|⟨x0,x1⟩
   ·rw[x0,x1]at this;exact ha (this.2 hb)
   ·rw[x0,x1]at this;exact ha (this.1 hb)) hu
  exact this List.mem_cons_self
theorem aWi:∀ (m:Nat) {A:List E} {vs:List Int},vs.length=m->vs.Nodup->Span A vs->m<=A.length:=by
 intro m
 induction m with
 | zero=>intro A vs _ _ _;omega
 | succ m ih =>
  intro A vs hm hn h
  have hx:∃ e∈A,∃ u v:Int,((e.f0=u/\e.f1=v)∨(e.f0=v/\e.f1=u))/\v∈vs/\u∉vs:=by
   apply Classical.byContradiction
   intro hno
   refine aQr (vs:=vs) (λe=>by rw[e]at hm;simp at hm) (λe he=>⟨λh0=>Classical.byContradiction λh1=>hno ⟨e,he,e.f1,e.f0,.inr ⟨rfl,rfl⟩,h0,h1⟩,λh1=>Classical.byContradiction λh0=>hno ⟨e,he,e.f0,e.f1,.inl ⟨rfl,rfl⟩,h1,h0⟩⟩) h
  obtain⟨e,he,u,v,huv,hv,hu⟩:=hx
  obtain⟨l1,l2,rfl⟩:=List.append_of_mem he
  have h2:Span (e::(l1++l2)) vs:=h.sub λx hx=>by simp at hx ⊢;rcases hx with q|q|q<;>simp[q]
  have:=ih (by rw[List.length_erase_of_mem hv,hm];rfl) (hn.erase v) ((aN4 huv hn hv hu).1 h2)
  simp at this ⊢
  omega
def aHu:List E->(List E->Int)->Int
 | [],f=>f []
 | e::es,f=>aHu es f+aHu es λA=>f (e::A)
theorem aFi:∀ {es:List E} {f g:List E->Int},(∀ A,(∀ e∈A,e∈es)->f A=g A)->aHu es f=aHu es g
 | [],f,g,h=>h [] λ_ h=>h
 | e::es,f,g,h=>by
  unfold aHu
  rw[aFi (es:=es) (f:=f) (g:=g) λA hA=>h A λx hx=>List.mem_cons_of_mem _ (hA x hx),aFi (es:=es) (f:=λA=>f (e::A)) (g:=λA=>g (e::A)) λA hA=>h _ λx hx=>by
   rcases List.mem_cons.1 hx with rfl|hx
   ·exact List.mem_cons_self
   ·exact List.mem_cons_of_mem _ (hA x hx)]
theorem aWf (es:List E):∀ (f g:List E->Int),aHu es (λA=>f A+g A)=aHu es f+aHu es g:=by
 induction es with
 | nil=>intro f g;rfl
 | cons e es ih =>
  intro f g
  unfold aHu
  rw[ih f g,ih (λA=>f (e::A)) (λA=>g (e::A))]
  omega
theorem aQm (es:List E) (c:Int):∀ (f:List E->Int),aHu es (λA=>c*f A)=c*aHu es f:=by
 induction es with
 | nil=>intro f;rfl
 | cons e es ih =>
  intro f
  unfold aHu
  rw[ih f,ih λA=>f (e::A),Int.mul_add]
theorem aTg {es:List E} {f:List E->Int} (h:∀ A,(∀ e∈A,e∈es)->f A=0):aHu es f=0:=by
 rw[aFi (g:=λ_=>0*0) λA hA=>h A hA,aQm es 0 λ_=>0,Int.zero_mul]
theorem aTh {es es':List E} (h:es.Perm es'):∀ {f:List E->Int},(∀ A B,A.Perm B->f A=f B)->aHu es f=aHu es' f:=by
 induction h with
 | nil=>intro f _;rfl
 | cons x _ ih =>
  intro f hf
  unfold aHu
  rw[ih hf,ih (f:=λA=>f (x::A)) λA B hAB=>hf _ _ (hAB.cons x)]
 | swap x y l =>
  intro f hf
  have e:aHu l (λA=>f (y::x::A))=aHu l λA=>f (x::y::A):=aFi λA _=>hf _ _ (List.Perm.swap x y A)
  show aHu l f+aHu l (λA=>f (x::A))+(aHu l (λA=>f (y::A))+aHu l λA=>f (y::x::A))=aHu l f+aHu l (λA=>f (y::A))+(aHu l (λA=>f (x::A))+aHu l λA=>f (x::y::A))
  omega
 | trans _ _ h1 h2=>intro f hf;exact(h1 hf).trans (h2 hf)
open Classical in
noncomputable def zt (c:Int) (vs:List Int) (A:List E):Int:=if Span A vs then(c-1)^(A.length-vs.length) else 0
theorem aJv {c:Int} {vs:List Int} {A:List E} (h:Span A vs):zt c vs A=(c-1)^(A.length-vs.length):=if_pos h
theorem aIn {c:Int} {vs:List Int} {A:List E} (h:¬ Span A vs):zt c vs A=0:=if_neg h
noncomputable def bGi (c:Int) (es:List E) (vs:List Int):Int:=aHu es (zt c vs)
theorem aO2 {A B:List E} (h:A.Perm B) (vs:List Int):Span A vs↔Span B vs:=⟨λk=>k.sub λ_ hx=>h.mem_iff.1 hx,λk=>k.sub λ_ hx=>h.mem_iff.2 hx⟩
theorem aW8 (c:Int):Rec c (bGi c) where
 perm:=fun {es es' vs} h=>aTh h λA B hAB=>by
  by_cases k:Span A vs
  ·rw[aJv k,aJv ((aO2 hAB vs).1 k),hAB.length_eq]
  ·rw[aIn k,aIn λq=>k ((aO2 hAB vs).2 q)]
 nil:=by
  show zt c [] []=1
  rw[aJv λv hv=>by cases hv]
  simp
 loop:=λe es vs hnd h0 h1=>by
  show aHu es (zt c vs)+aHu es (λA=>zt c vs (e::A))=c*aHu es (zt c vs)
  rw[<-aWf,<-aQm]
  refine aFi λA _=>?_
  by_cases k:Span A vs
  ·rw[aJv k,aJv ((aL0 h0 h1).2 k)]
   have hn:=aWi vs.length rfl hnd k
   rw[List.length_cons,show A.length+1-vs.length=A.length-vs.length+1 by omega,Int.pow_succ]
   generalize (c-1)^(A.length-vs.length)=p
   rw[Int.mul_sub,Int.mul_comm p c]
   omega
  ·rw[aIn k,aIn λq=>k ((aL0 h0 h1).1 q)]
   simp
 cut:=λe es vs u v huv _ hn hv hu=>by
  show aHu es (zt c vs)+aHu es (λA=>zt c vs (e::A))=aHu es (zt c vs)+aHu es (zt c (vs.erase v))
  congr 1
  refine aFi λA _=>?_
  have hl:=List.length_erase_of_mem hv
  have hp:0<vs.length:=List.length_pos_of_mem hv
  by_cases k:Span A (vs.erase v)
  ·rw[aJv k,aJv ((aN4 huv hn hv hu).2 k),List.length_cons,hl,show A.length+1-vs.length=A.length-(vs.length-1) by omega]
  ·rw[aIn k,aIn λq=>k ((aN4 huv hn hv hu).1 q)]
 far:=λes vs _ _ hv hf=>aTg λA hA=>aIn (aQr hv λe he=>hf e (hA e he))
def Cnt {α:Type} (S:α->Prop) (k:Int):Prop:=∃ L:List α,L.Nodup/\(∀ x,x∈L↔S x)/\(L.length:Int)=k
open Classical in
theorem aL8 {α:Type}:∀ {L M:List α},L.Nodup->(∀ x∈L,x∈M)->L.length<=M.length
 | [],M,_,_=>Nat.zero_le _
 | a::L,M,hn,h=>by
  have ha:=h a List.mem_cons_self
  have h1:=aL8 (L:=L) (M:=M.erase a) (List.nodup_cons.1 hn).2 λx hx=>by
   have hxa:x≠a:=λe=>(List.nodup_cons.1 hn).1 (e▸hx)
   exact(List.mem_erase_of_ne hxa).2 (h x (List.mem_cons_of_mem _ hx))
  rw[List.length_erase_of_mem ha]at h1
  have:=List.length_pos_of_mem ha
  rw[List.length_cons]
  omega
theorem Cnt.unique {α:Type} {S:α->Prop} {k m:Int} (h:Cnt S k) (h':Cnt S m):k=m:=by
 obtain⟨L,hL,hs,rfl⟩:=h
 obtain⟨M,hM,hs',rfl⟩:=h'
 have h1:=aL8 hL λx hx=>(hs' x).2 ((hs x).1 hx)
 have h2:=aL8 hM λx hx=>(hs x).2 ((hs' x).1 hx)
 omega
theorem Cnt.congr {α:Type} {S T:α->Prop} {k:Int} (h:Cnt S k) (he:∀ x,T x↔S x):Cnt T k:=by
 obtain⟨L,hL,hs,hk⟩:=h
 exact⟨L,hL,λx=>(hs x).trans (he x).symm,hk⟩
theorem aL9 {α β:Type} {f:α->β}:∀ {L:List α},(∀ x∈L,∀ y∈L,f x=f y->x=y)->L.Nodup->(L.map f).Nodup
 | [],_,_=>List.nodup_nil
 | a::L,hf,hn=>by
  rw[List.map_cons,List.nodup_cons]
  refine⟨λh=>?_,aL9 (λx hx y hy=>hf x (List.mem_cons_of_mem _ hx) y (List.mem_cons_of_mem _ hy)) (List.nodup_cons.1 hn).2⟩
  obtain⟨x,hx,he⟩:=List.mem_map.1 h
  have:=hf x (List.mem_cons_of_mem _ hx) a List.mem_cons_self he
  exact(List.nodup_cons.1 hn).1 (this▸hx)
theorem Cnt.image {α β:Type} {S:α->Prop} {T:β->Prop} {k:Int} (h:Cnt S k) (f:α->β) (hf:∀ x,S x->T (f x)) (hi:∀ x y,S x->S y->f x=f y->x=y) (hs:∀ y,T y->∃ x,S x/\f x=y):Cnt T k:=by
 obtain⟨L,hL,hm,hk⟩:=h
 refine⟨L.map f,aL9 (λx hx y hy=>hi x y ((hm x).1 hx) ((hm y).1 hy)) hL,λy=>?_,by rw[List.length_map];exact hk⟩
 rw[List.mem_map]
 constructor
 ·rintro⟨x,hx,rfl⟩
  exact hf x ((hm x).1 hx)
 ·intro hy
  obtain⟨x,hx,he⟩:=hs y hy
  exact⟨x,(hm x).2 hx,he⟩
theorem Cnt.or {α:Type} {S T U:α->Prop} {k m:Int} (h:Cnt S k) (h':Cnt T m) (hd:∀ x,S x->¬ T x) (hu:∀ x,U x↔S x∨T x):Cnt U (k+m):=by
 obtain⟨L,hL,hs,rfl⟩:=h
 obtain⟨M,hM,hs',rfl⟩:=h'
 refine⟨L++M,List.nodup_append.2 ⟨hL,hM,λx hx y hy e=>hd x ((hs x).1 hx) (e▸(hs' y).1 hy)⟩,λx=>?_,by simp⟩
 rw[List.mem_append,hs,hs',hu]
def Pk (es:List E) (vs:List Int) (p:Int->Int):Prop:=(∀ w,w∉vs->p w=0)/\(∀ w∈vs,0<=p w)/\∀ S:Int->Bool,(∀ x,S x=true->x∈vs)->(∃ x,S x=true)->∃ w,S w=true/\p w<lap es (ind S) w
theorem aX4 {es es':List E} (h:es.Perm es') (s:Int->Int) (w:Int):lap es s w=lap es' s w:=aKy h _
theorem aR2 {e:E} {S:Int->Bool} {w:Int} (hw:S w=true) (h0:e.f0≠w) (h1:e.f1≠w):aHx (ind S) w e=0:=by
 unfold aHx
 rw[if_neg h0,if_neg h1]
 rfl
theorem bAa {e:E} {es:List E} {vs:List Int} (h0:e.f0∉vs) (h1:e.f1∉vs) (p:Int->Int):Pk (e::es) vs p↔Pk es vs p:=by
 have key:∀ (S:Int->Bool) (w:Int),(∀ x,S x=true->x∈vs)->S w=true->lap (e::es) (ind S) w=lap es (ind S) w:=λS w hS hw=>by
  have hwv:=hS w hw
  rw[aH0,aR2 hw (λx=>h0 (x▸hwv)) (λx=>h1 (x▸hwv))]
  omega
 unfold Pk
 constructor
 ·rintro⟨a,b,c⟩
  exact⟨a,b,λS hS hx=>by
   obtain⟨w,hw,hl⟩:=c S hS hx
   exact⟨w,hw,by rw[<-key S w hS hw];exact hl⟩⟩
 ·rintro⟨a,b,c⟩
  exact⟨a,b,λS hS hx=>by
   obtain⟨w,hw,hl⟩:=c S hS hx
   exact⟨w,hw,by rw[key S w hS hw];exact hl⟩⟩
theorem aS4 {es:List E} {S:Int->Bool} {w:Int} (hw:S w=true):0<=lap es (ind S) w:=aGw λe _=>by
 unfold aHx ind
 by_cases a:e.f0=w
 ·rw[if_pos a,a,hw]
  by_cases b:e.f1=w
  ·rw[if_pos b,b,hw];simp
  ·rw[if_neg b];cases S e.f1<;>simp
 ·rw[if_neg a]
  by_cases b:e.f1=w
  ·rw[if_pos b,b,hw];cases S e.f0<;>simp
  ·rw[if_neg b];simp
theorem bDb {e:E} {es:List E} {vs:List Int} {u v:Int} (huv:(e.f0=u/\e.f1=v)∨(e.f0=v/\e.f1=u)) (hn:vs.Nodup) (hv:v∈vs) (hu:u∉vs) (p:Int->Int) :
  Pk (e::es) vs p↔(∃ p',Pk es vs p'/\(λw=>p' w+one v 1 w)=p)∨Pk es (vs.erase v) p:=by
 have hne:u≠v:=λx=>hu (x▸hv)
 have atv:∀ S:Int->Bool,(∀ x,S x=true->x∈vs)->S v=true->lap (e::es) (ind S) v=1+lap es (ind S) v:=λS hS hw=>by
  have hSu:S u=false:=by
   cases h:S u with
   | false=>rfl
   | true=>exact absurd (hS u h) hu
  rw[aH0]
  congr 1
  unfold aHx ind
  rcases huv with ⟨a,b⟩|⟨a,b⟩
  ·rw[a,b,if_neg hne,if_pos rfl,hw,hSu];rfl
  ·rw[a,b,if_pos rfl,if_neg hne,hw,hSu];rfl
 have off:∀ (S:Int->Bool) (w:Int),(∀ x,S x=true->x∈vs)->S w=true->w≠v->lap (e::es) (ind S) w=lap es (ind S) w:=λS w hS hw hwv=>by
  have hwu:w≠u:=λx=>hu (x▸hS w hw)
  rw[aH0,aR2 hw (by rcases huv with ⟨a,b⟩|⟨a,b⟩<;>omega) (by rcases huv with ⟨a,b⟩|⟨a,b⟩<;>omega)]
  omega
 constructor
 ·rintro⟨h1,h2,h3⟩
  by_cases hp:p v=0
  ·refine .inr ⟨λw hw=>?_,λw hw=>h2 w (List.mem_of_mem_erase hw),λS hS hx=>?_⟩
   ·by_cases c:w=v
    ·rw[c,hp]
    ·exact h1 w λq=>hw (hn.mem_erase_iff.2 ⟨c,q⟩)
   ·obtain⟨w,hw,hl⟩:=h3 S (λx hx=>List.mem_of_mem_erase (hS x hx)) hx
    have hwv:w≠v:=(hn.mem_erase_iff.1 (hS w hw)).1
    exact⟨w,hw,by rw[<-off S w (λx hx=>List.mem_of_mem_erase (hS x hx)) hw hwv];exact hl⟩
  ·refine .inl ⟨λw=>p w-one v 1 w,⟨λw hw=>?_,λw hw=>?_,λS hS hx=>?_⟩,funext λw=>by show p w-one v 1 w+one v 1 w=p w;omega⟩
   ·have hwv:w≠v:=λx=>hw (x▸hv)
    have:one v 1 w=0:=if_neg hwv
    show p w-one v 1 w=0
    rw[this,h1 w hw]
    rfl
   ·have:=h2 w hw
    show 0<=p w-one v 1 w
    unfold one
    by_cases c:w=v
    ·rw[if_pos c]
     have h0:=h2 v hv
     rw[c]
     omega
    ·rw[if_neg c];omega
   ·obtain⟨w,hw,hl⟩:=h3 S hS hx
    refine⟨w,hw,?_⟩
    show p w-one v 1 w<_
    unfold one
    by_cases c:w=v
    ·rw[if_pos c]
     rw[c]at hl hw ⊢
     rw[atv S hS hw]at hl
     omega
    ·rw[if_neg c]
     rw[off S w hS hw c]at hl
     omega
 ·rintro (⟨p',⟨h1,h2,h3⟩,rfl⟩|⟨h1,h2,h3⟩)
  ·refine⟨λw hw=>?_,λw hw=>?_,λS hS hx=>?_⟩
   ·have hwv:w≠v:=λx=>hw (x▸hv)
    have:one v 1 w=0:=if_neg hwv
    show p' w+one v 1 w=0
    rw[this,h1 w hw]
    rfl
   ·have:=h2 w hw
    show 0<=p' w+one v 1 w
    unfold one
    split<;>omega
   ·obtain⟨w,hw,hl⟩:=h3 S hS hx
    refine⟨w,hw,?_⟩
    show p' w+one v 1 w<_
    unfold one
    by_cases c:w=v
    ·rw[if_pos c]
     rw[c]at hl hw ⊢
     rw[atv S hS hw]
     omega
    ·rw[if_neg c,off S w hS hw c]
     omega
  ·have hpv:p v=0:=h1 v λq=>(hn.mem_erase_iff.1 q).1 rfl
   refine⟨λw hw=>h1 w λq=>hw (List.mem_of_mem_erase q),λw hw=>?_,λS hS hx=>?_⟩
   ·by_cases c:w=v
    ·rw[c,hpv];exact Int.le_refl _
    ·exact h2 w (hn.mem_erase_iff.2 ⟨c,hw⟩)
   ·by_cases c:S v=true
    ·refine⟨v,c,?_⟩
     rw[atv S hS c,hpv]
     have:=aS4 (es:=es) c
     omega
    ·obtain⟨w,hw,hl⟩:=h3 S (λx hx=>hn.mem_erase_iff.2 ⟨λq=>c (q▸hx),hS x hx⟩) hx
     exact⟨w,hw,by rw[off S w hS hw λq=>c (q▸hw)];exact hl⟩
theorem bDa {es:List E} {vs:List Int} (hv:vs≠[]) (hf:∀ e∈es,e.f0∈vs↔e.f1∈vs) (p:Int->Int):¬ Pk es vs p:=by
 rintro⟨h1,h2,h3⟩
 obtain⟨w,hw,hl⟩:=h3 (λx=>decide (x∈vs)) (λx hx=>by simpa using hx) (by
  cases vs with
  | nil=>exact absurd rfl hv
  | cons v vs=>exact⟨v,by simp⟩)
 have hwv:w∈vs:=by simpa using hw
 have h0:=h2 w hwv
 have:lap es (ind λx=>decide (x∈vs)) w=0:=aGq λe he=>by
  have hfe:=hf e he
  unfold aHx ind
  by_cases a:e.f0∈vs
  ·have b:=hfe.1 a
   simp[a,b]
  ·have b:e.f1∉vs:=λq=>a (hfe.2 q)
   simp[a,b]
 omega
theorem bA9:bF5 1 λes vs k=>Cnt (Pk es vs) k where
 perm:=fun {es es' vs k} h hk=>hk.congr λp=>by
  unfold Pk
  simp only[aX4 h]
 nil:=⟨[λ_=>0],by simp,λp=>by
  rw[List.mem_singleton]
  constructor
  ·rintro rfl
   exact⟨λ_ _=>rfl,λw hw=>by simp at hw,λS hS hx=>by obtain⟨x,hx⟩:=hx;have:=hS x hx;simp at this⟩
  ·rintro⟨h,_⟩
   exact funext λw=>h w (by simp),rfl⟩
 loop:=λe es vs k _ h0 h1 hk=>by rw[Int.one_mul];exact hk.congr λp=>bAa h0 h1 p
 cut:=λe es vs u v k k' huv _ hn hv hu hk hk'=>by
  refine Cnt.or (S:=λp=>∃ p',Pk es vs p'/\(λw=>p' w+one v 1 w)=p) (hk.image (λp' w=>p' w+one v 1 w) (λp hp=>⟨p,hp,rfl⟩) (λx y _ _ he=>funext λw=>by have h:=congrFun he w;have h':x w+one v 1 w=y w+one v 1 w:=h;omega) λy hy=>hy) hk' (λp hp hp'=>?_) (bDb huv hn hv hu)
  obtain⟨p',h',rfl⟩:=hp
  have h1:=hp'.1 v λq=>(hn.mem_erase_iff.1 q).1 rfl
  have h2:=h'.2.1 v hv
  have:one v 1 v=1:=if_pos rfl
  dsimp only at h1
  omega
 far:=λes vs _ _ hv hf=>⟨[],List.nodup_nil,λp=>⟨λh=>absurd h (by simp),λh=>absurd h (bDa hv hf p)⟩,rfl⟩
theorem aWx {es:List E} {vs:List Int} (hl:∀ x∈es,x.f0≠x.f1) (hn:vs.Nodup):Cnt (Pk es vs) (aJo es vs):=bF5.of aRc bA9 es.length es vs rfl hl hn
end Cf
namespace Cf
open P
def aMk (n:Nat) (es:List E) (r:Int):List Int:=aO5 n λc=>aH6 es r c
def aS5 (n:Nat) (es:List E):List (List Int):=(List.range n).map λr:Nat=>aMk n es (r:Int)
theorem aNd (n:Nat) (es:List E):(aS5 n es).length=n:=by simp[aS5]
theorem bAk {es:List E} (hel:es.length<=12) (r c:Int):-12<=aH6 es r c/\aH6 es r c<=12:=by
 have h1:=aJ9 es r
 have h2:=aM8 es r
 have h3:=aEw es r c
 have h4:=aJk es r c
 unfold aH6
 split<;>omega
theorem aSc {n:Nat} {es:List E} (hes:∀ e∈es,EOk n e) (hel:es.length<=12) (hn:n<=6) {M:List (List Int)} (hM:M.length<=6) {v:Nat} (hv:v<n) {Q:List (List Int)->Prop}
  (hQ:Ep (λk=>aAn.l0 k (M++[aMk n es (v:Int)]) ((v+1:Nat):Int) (n:Int) es) Q):∀ (d i:Nat) (x:List Int),i+d=n->Rep n x (λw=>if w<i then-mult es (v:Int) w else 0) ->
  Ep (λk=>aAn.l1 k M (v:Int) x (n:Int) (i:Int) (n:Int) es) Q:=by
 intro d
 induction d with
 | zero =>
  intro i x hi hx
  refine Ep.up ?_
  simp only[aAn.l1]
  refine Ep.neg (by omega) (Ep.bind (aIg _ es _ (by omega)) ?_)
  rintro _ rfl
  refine Ep.pos (by omega) (Ep.pos (by have:=hx.1;omega) (Ep.pos (by omega) ?_))
  have e:x.set ((v:Int)).toNat (bCb (n:Int) es (v:Int))=aMk n es (v:Int):=((hx.set (v:=(v:Int)) (by omega) (by omega) _).congr λw w0 w1=>by
   unfold aH6
   by_cases c:w=v
   ·rw[if_pos c,if_pos c.symm,aPi ⟨by omega,by omega⟩]
   ·rw[if_neg c,if_pos (by omega),if_neg (λq=>c q.symm)]).eq
  rw[e,wrap_succ (by omega)]
  exact hQ
 | succ d ih =>
  intro i x hi hx
  refine Ep.up ?_
  simp only[aAn.l1]
  refine Ep.pos (by omega) (Ep.bind (aR5 _ es hes hel _ _ ⟨by omega,by omega⟩ ⟨by omega,by omega⟩) ?_)
  rintro _ rfl
  have hm0:=aEw es (v:Int) (i:Int)
  have hm1:=aJk es (v:Int) (i:Int)
  refine Ep.pos (by omega) (Ep.pos (by have:=hx.1;omega) ?_)
  rw[aCv (by omega) (by omega),wrap_succ (by omega)]
  refine ih (i+1) _ (by omega) ((hx.set (v:=(i:Int)) (by omega) (by omega) _).congr λw w0 w1=>?_)
  by_cases c:w=i
  ·rw[if_pos c,if_pos (by omega),c]
  ·rw[if_neg c]
   by_cases c2:w<i
   ·rw[if_pos c2,if_pos (by omega)]
   ·rw[if_neg c2,if_neg (by omega)]
theorem aUa {n:Nat} (es:List E) {v:Nat} (hv:v<n):(aS5 n es).take (v+1)=(aS5 n es).take v++[aMk n es (v:Int)]:=by
 rw[List.take_succ_eq_append_getElem (by rw[aNd];exact hv)]
 simp[aS5]
theorem aSd {n:Nat} {es:List E} (hes:∀ e∈es,EOk n e) (hel:es.length<=12) (hn:n<=6):∀ (d v:Nat),v+d=n->Ep (λk=>aAn.l0 k ((aS5 n es).take v) (v:Int) (n:Int) es) (·=aS5 n es):=by
 intro d
 induction d with
 | zero =>
  intro v hv
  refine Ep.up ?_
  simp only[aAn.l0]
  refine Ep.neg (by omega) (Ep.now ?_)
  rw[List.take_of_length_le (by rw[aNd];omega)]
 | succ d ih =>
  intro v hv
  have h1:=ih (v+1) (by omega)
  rw[aUa es (by omega)]at h1
  refine Ep.up ?_
  simp only[aAn.l0]
  refine Ep.pos (by omega) (Ep.pos (by omega) (Ep.pos (by omega) (Ep.aEu rfl ?_)))
  rw[Int.toNat_natCast,List.length_replicate]
  exact aSc hes hel hn (by rw[List.length_take];omega) (by omega) h1 n 0 _ (by omega) ((Rep.zero n).congr λw w0 w1=>by rw[if_neg (by omega)])
theorem bAo {n:Nat} {es:List E} (hg:GOk (n:Int) es):Ep (λk=>aAn.f k (n:Int) es) (·=aS5 n es):=by
 have hG:=hg.1
 unfold aHb at hG
 simp only[aAn.f]
 refine Ep.aEu (aHk _ _) ?_
 rw[aEp.2 hg]
 refine Ep.pos rfl ?_
 have:=aSd (n:=n) hG.2.2.2 hG.2.2.1 (by omega) n 0 (by omega)
 simpa using this
def vsL (n q:Nat):List Int:=((List.range n).eraseIdx q).map λi:Nat=>(i:Int)
theorem aKt (n q:Nat):(vsL n q).Nodup:=by
 unfold vsL
 refine List.Pairwise.map _ (λa b h=>?_) ((List.nodup_range (n:=n)).sublist (List.eraseIdx_sublist _ _))
 omega
theorem aF1 {n q:Nat} (hq:q<n) {v:Int}:v∈vsL n q↔(0<=v/\v<n)/\v≠q:=by
 unfold vsL
 rw[List.mem_map]
 constructor
 ·rintro⟨i,hi,rfl⟩
  rw[List.mem_eraseIdx_iff_getElem]at hi
  obtain⟨j,hj,hjq,hje⟩:=hi
  simp at hj hje
  omega
 ·rintro⟨⟨h0,h1⟩,h2⟩
  refine⟨v.toNat,?_,by omega⟩
  rw[List.mem_eraseIdx_iff_getElem]
  exact⟨v.toNat,by simp;omega,by omega,by simp⟩
theorem aJ8 {n q:Nat} (hq:q<n):(vsL n q).length=n-1:=by
 unfold vsL
 rw[List.length_map,List.length_eraseIdx,if_pos (by simpa using hq),List.length_range]
def aSx (n:Nat) (es:List E) (q:Nat):List (List Int):=(vsL n q).map λr=>(vsL n q).map λc=>aH6 es r c
theorem aWq {n q:Nat} (hq:q<n) (es:List E):(aSx n es q).length=n-1:=by unfold aSx;rw[List.length_map,aJ8 hq]
theorem aMm (q:Nat) (L:List (List Int)):∀ i,i<=L.length->aIe q L i=((L.take i).eraseIdx q).map λr=>r.eraseIdx q
 | 0,_=>by simp[aIe]
 | i+1,h=>by
  have hi:i<L.length:=by omega
  have ih:=aMm q L i (by omega)
  unfold aIe
  have hl:(L.take i).length=i:=by rw[List.length_take];omega
  rw[List.take_succ_eq_append_getElem hi]
  by_cases c:i=q
  ·rw[if_pos c,ih,List.eraseIdx_append_of_length_le (by omega),hl,show q-i=0 by omega,List.eraseIdx_of_length_le (l:=L.take i) (by omega)]
   simp
  ·rw[if_neg c,ih]
   have hg:L.getD i []=L[i]:=by simp[List.getD,hi]
   rw[hg]
   by_cases d:q<i
   ·rw[List.eraseIdx_append_of_lt_length (by omega)]
    simp
   ·rw[List.eraseIdx_append_of_length_le (by omega),List.eraseIdx_of_length_le (l:=L.take i) (by omega),List.eraseIdx_of_length_le (l:=[L[i]]) (by simp;omega),List.map_append]
    rfl
theorem aX5 {n q:Nat} (es:List E):aIe q (aS5 n es) (aS5 n es).length=aSx n es q:=by
 rw[aMm q _ _ (Nat.le_refl _),List.take_length]
 unfold aS5 aSx vsL aMk aO5
 rw[map_eraseIdx,List.map_map]
 show _=(((List.range n).eraseIdx q).map λi:Nat=>(i:Int)).map _
 rw[List.map_map]
 refine List.map_congr_left λr _=>?_
 show ((List.range n).map λc:Nat=>aH6 es (r:Int) (c:Int)).eraseIdx q=(((List.range n).eraseIdx q).map λi:Nat=>(i:Int)).map _
 rw[map_eraseIdx,List.map_map]
 rfl
theorem bDw {n:Nat} {es:List E} (hg:GOk (n:Int) es) {q:Nat} (hq:q<n):Ep (λk=>aC3.f k (n:Int) es (q:Int)) (·=aSx n es q):=by
 have hG:=hg.1
 unfold aHb at hG
 simp only[aC3.f]
 refine Ep.aEu (aLf (n:Int) es _ (by simp[Wf,Lit.wf,IntKind.min,IntKind.max,IntKind.signed,IntKind.bits];omega)) ?_
 refine Ep.pos (by rw[aEp.2 hg];simp;omega) ?_
 refine Ep.bind (bAo hg) ?_
 rintro _ rfl
 have e:bCc (q:Int) (aS5 n es)=some (aSx n es q):=by
  unfold bCc
  rw[if_pos,Int.toNat_natCast,aX5]
  refine⟨by omega,by omega,by rw[aNd];omega,λr hr=>?_⟩
  unfold aS5 at hr
  obtain⟨i,_,rfl⟩:=List.mem_map.1 hr
  unfold aMk
  rw[aKb]
  omega
 exact Ep.congr (λ_=>e) (Ep.now rfl)
end Cf
namespace P
def aD1.l0:Nat->List (S73)->List Int->Int->Int->Int->List (S73)->Option ((List (S73)))
 | 0,_,_,_,_,_,_=>none
 | k+1,x5,x8,x9,fK,aU,aM=>if fK<x9 then(if 0<=fK then(if fK<(x8.length:Int) then(if 0<=(rd x8 fK) then(if(rd x8 fK)<(aM.length:Int) then(if x5.length<8796093022208 then(aD1.l0 k (x5++[(⟨(aA2 aM (rd x8 fK)).f0,(aA2 aM (rd x8 fK)).f1⟩:S73)]) x8 x9 (wrap64 (fK+1)) aU aM) else(none)) else(none)) else(none)) else(none)) else(none)) else(some x5)
def aD1.f (k:Nat) (aE:Int) (aC:List (S73)) (l1:List Int):Option ((List (S73))):=aD1.l0 k ([]:List (S73)) l1 (l1.length:Int) 0 aE aC
theorem aD1.aBa:∀ k,(∀ y0 y1 y2 y3 y4 y5,LeO (aD1.l0 k y0 y1 y2 y3 y4 y5) (aD1.l0 (k+1) y0 y1 y2 y3 y4 y5))
 | 0=>λ_ _ _ _ _ _ r h=>by simp[aD1.l0]at h
 | k+1=>by
  have ih0:=aD1.aBa k
  ·intro y0 y1 y2 y3 y4 y5
   unfold aD1.l0
   exact zm0
theorem aD1.mono:∀ a0 a1 a2 k,LeO (aD1.f k a0 a1 a2) (aD1.f (k+1) a0 a1 a2):=by
 intro a0 a1 a2 k;have ih0:=aD1.aBa k;unfold aD1.f;exact zm0
mutual
def aCe.j0:Nat->List Int->Bool->Int->List (S73)->Option (Bool)
 | 0,_,_,_,_=>none
 | k+1,x1,zD,aU,aM=>if zD=true then(some false) else(aCe.l0 k x1 1 aU aM)
def aCe.l0:Nat->List Int->Int->Int->List (S73)->Option (Bool)
 | 0,_,_,_,_=>none
 | k+1,x1,x5,aU,aM=>if x5<(x1.length:Int) then(if 0<=(wrap64 (x5-1)) then(if(wrap64 (x5-1))<(x1.length:Int) then(if 0<=x5 then(if(rd x1 (wrap64 (x5-1)))≥(rd x1 x5) then(some false) else(aCe.l0 k x1 (wrap64 (x5+1)) aU aM)) else(none)) else(none)) else(none)) else((aD1.f k aU aM x1).bind λb3=>((aAr.f k aU b3).bind λcV=>(some cV)))
end
def aCe.f (k:Nat) (aE:Int) (aC:List (S73)) (l1:List Int):Option (Bool):=(aC6.f aE aC).bind λaX=>(if aX=true then(if(l1.length:Int)=(wrap64 (aE-1)) then((aB7.f k l1 0 (wrap64 ((aC.length:Int)-1))).bind λbE=>(aCe.j0 k l1 (!bE) aE aC)) else(aCe.j0 k l1 true aE aC)) else(aCe.j0 k l1 true aE aC))
theorem aCe.aBa:∀ k,(∀ y0 y1 y2 y3,LeO (aCe.j0 k y0 y1 y2 y3) (aCe.j0 (k+1) y0 y1 y2 y3))/\(∀ y0 y1 y2 y3,LeO (aCe.l0 k y0 y1 y2 y3) (aCe.l0 (k+1) y0 y1 y2 y3))
 | 0=>⟨λ_ _ _ _ r h=>by simp[aCe.j0]at h,λ_ _ _ _ r h=>by simp[aCe.l0]at h⟩
 | k+1=>by
  obtain⟨ih0,ih1⟩:=aCe.aBa k
  refine⟨?_,?_⟩
  ·intro y0 y1 y2 y3
   unfold aCe.j0
   exact zm8
  ·intro y0 y1 y2 y3
   unfold aCe.l0
   exact zm8
theorem aCe.mono:∀ a0 a1 a2 k,LeO (aCe.f k a0 a1 a2) (aCe.f (k+1) a0 a1 a2):=by
 intro a0 a1 a2 k;obtain⟨ih0,ih1⟩:=aCe.aBa k;unfold aCe.f;exact zm8
def aCt.l0:Nat->List Int->Int->Int->Int->List (S73)->Int->List (S73)->Option (Bool)
 | 0,_,_,_,_,_,_,_=>none
 | k+1,eJ,k5,fQ,aU,aM,fU,eP=>if fQ<k5 then(if 0<=fQ then(if fQ<(eJ.length:Int) then(if 0<=(rd eJ fQ) then(if(rd eJ fQ)<(aM.length:Int) then(if eP.length<8796093022208 then(aCt.l0 k eJ k5 (wrap64 (fQ+1)) aU aM fU (eP++[(⟨(aA2 aM (rd eJ fQ)).f0,(aA2 aM (rd eJ fQ)).f1⟩:S73)])) else(none)) else(none)) else(none)) else(none)) else(none)) else((aAh.f k fU eP).bind λfE=>(some ((fE.length:Int)==aU)))
def aCt.f (k:Nat) (aE:Int) (aC:List (S73)) (l1:List Int):Option (Bool):=aCt.l0 k l1 (l1.length:Int) 0 aE aC aE ([]:List (S73))
theorem aCt.aBa:∀ k,(∀ y0 y1 y2 y3 y4 y5 y6,LeO (aCt.l0 k y0 y1 y2 y3 y4 y5 y6) (aCt.l0 (k+1) y0 y1 y2 y3 y4 y5 y6))
 | 0=>λ_ _ _ _ _ _ _ r h=>by simp[aCt.l0]at h
 | k+1=>by
  have ih0:=aCt.aBa k
  ·intro y0 y1 y2 y3 y4 y5 y6
   unfold aCt.l0
   exact bI0
theorem aCt.mono:∀ a0 a1 a2 k,LeO (aCt.f k a0 a1 a2) (aCt.f (k+1) a0 a1 a2):=by
 intro a0 a1 a2 k;have ih0:=aCt.aBa k;unfold aCt.f;exact bI0
end P
namespace Cf
def bIe (s:List Int):Nat:=if s.length=0 then 0 else(s.getD (s.length-1) 0).toNat+1
def bL4 (s:List Int) (j:Nat):List (List Int):=(List.range (j-bIe s)).map λd=>s++[((bIe s+d:Nat):Int)]
def aWl (n:Nat):Nat->List (List Int)
 | 0=>[[]]
 | k+1=>(aWl n k).flatMap λs=>bL4 s n
theorem aYe {vs:List Int} {A:List E} (h:Span A vs):zt 1 vs A=if A.length<=vs.length then 1 else 0:=by
 rw[aJv h,Int.sub_self]
 by_cases c:A.length<=vs.length
 ·rw[if_pos c,Nat.sub_eq_zero_of_le c]
  rfl
 ·rw[if_neg c]
  exact Int.zero_pow (by omega)
theorem aOu {es:List E} {vs:List Int} (hl:∀ x∈es,x.f0≠x.f1) (hn:vs.Nodup):aJo es vs=bGi 1 es vs:=Rec.unique (aW8 1) aRc hl hn
end Cf
namespace Cf
open P
def aGo (m i:Nat):List Int:=((List.range i).filter λj=>m.testBit j).map λj:Nat=>(j:Int)
def aF8 (m:Nat):List Int:=aGo m 6
theorem bEw:∀ (m:Fin 64) (i:Fin 7),(shr .i64 (m.val:Int) (i.val:Int)>0/\i.val<6)∨(¬ shr .i64 (m.val:Int) (i.val:Int)>0/\aGo m.val i.val=aF8 m.val):=by decide
theorem aYu:∀ (m:Fin 64) (i:Fin 6),(Go.bits .and .i64 (shr .i64 (m.val:Int) (i.val:Int)) 1=1/\m.val.testBit i.val=true)∨(Go.bits .and .i64 (shr .i64 (m.val:Int) (i.val:Int)) 1=0/\m.val.testBit i.val=false):=by decide
theorem aMr (m i:Nat):aGo m (i+1)=aGo m i++(if m.testBit i then [(i:Int)] else []):=by
 unfold aGo
 rw[List.range_succ,List.filter_append,List.map_append]
 congr 1
 by_cases c:m.testBit i=true
 ·rw[if_pos c,List.filter_cons_of_pos (by simpa using c)];rfl
 ·rw[if_neg c,List.filter_cons_of_neg (by simpa using c)];rfl
theorem aP1 (m i:Nat):(aGo m i).length<=i:=by
 unfold aGo
 rw[List.length_map]
 exact Nat.le_trans (List.length_filter_le _ _) (by simp)
theorem bBj:∀ (m:Fin 64) (i:Fin 6),m.val.testBit i.val=true->∃ m':Fin 64,Go.bits .andNot .i64 (m.val:Int) (shl .i64 1 (i.val:Int))=(m'.val:Int)/\aF8 m'.val=(aF8 m.val).eraseIdx (aGo m.val i.val).length/\(aF8 m.val)[(aGo m.val i.val).length]? = some (i.val:Int)/\m'.val<=m.val:=by decide
theorem bEx:∀ (m:Fin 64) (i:Fin 7),m.val<2^i.val->aGo m.val i.val=aF8 m.val:=by decide
theorem aXy:∀ i:Fin 7,aF8 (2^i.val-1)=(List.range i.val).map (λj:Nat=>(j:Int))/\shl .i64 1 (i.val:Int)=((2^i.val:Nat):Int)/\(2^i.val-1:Nat)<64/\0<2^i.val:=by decide
theorem bBi {i:Nat} (hi:i<7):aF8 (2^i-1)=(List.range i).map (λj:Nat=>(j:Int))/\wrap64 (shl .i64 1 (i:Int)-1)=((2^i-1:Nat):Int)/\shl .i64 1 (i:Int)=((2^i:Nat):Int)/\(2^i-1:Nat)<64:=by
 obtain⟨h1,h2,h3,h4⟩:=aXy ⟨i,hi⟩
 simp only at h1 h2 h3 h4
 refine⟨h1,?_,h2,h3⟩
 rw[h2,aCv (by omega) (by omega)]
 omega
theorem aQ0 {m:Nat} (hm:m<64):∀ (d i:Nat),i+d=6->Ep (λk=>aBv.l0 k (m:Int) (aGo m i) (i:Int)) (·=aF8 m):=by
 intro d
 induction d with
 | zero =>
  intro i hi
  refine Ep.up ?_
  simp only[aBv.l0]
  rcases bEw ⟨m,hm⟩ ⟨i,by omega⟩ with ⟨_,h⟩|⟨h1,h2⟩
  ·exact absurd h (by simp;omega)
  ·exact Ep.pos (by omega) (Ep.neg h1 (Ep.now h2))
 | succ d ih =>
  intro i hi
  have h:=ih (i+1) (by omega)
  rw[aMr]at h
  refine Ep.up ?_
  simp only[aBv.l0]
  rcases bEw ⟨m,hm⟩ ⟨i,by omega⟩ with ⟨h1,_⟩|⟨h1,h2⟩
  ·refine Ep.pos (by omega) (Ep.pos h1 ?_)
   rw[wrap_succ (by omega)]
   rcases aYu ⟨m,hm⟩ ⟨i,by omega⟩ with ⟨b1,b2⟩|⟨b1,b2⟩
   ·rw[if_pos b2]at h
    exact Ep.pos b1 (Ep.pos (by have:=aP1 m i;omega) h)
   ·have b1':Go.bits .and .i64 (shr .i64 (m:Int) (i:Int)) 1=0:=b1
    rw[if_neg (by simpa using b2),List.append_nil]at h
    exact Ep.neg (by rw[b1'];omega) h
  ·exact Ep.pos (by omega) (Ep.neg h1 (Ep.now h2))
theorem aXf {m:Nat} (hm:m<64):Ep (λk=>aBv.f k (m:Int)) (·=aF8 m):=aQ0 hm 6 0 rfl
def aXz (m:Nat) (M:List (List Int)):Prop:=M.length=m/\(∀ r∈M,r.length=m)/\∀ r∈M,∀ x∈r,-12<=x/\x<=12
theorem bGu {l:List Int} (h:∀ x∈l,-12<=x/\x<=12) (i:Int):-12<=rd l i/\rd l i<=12:=by
 unfold rd
 by_cases c:i.toNat<l.length
 ·rw[zdG,zdH c]
  exact h _ (List.getElem_mem c)
 ·rw[zdG,List.getElem?_eq_none (by omega)]
  simp
theorem aXz.ent {m:Nat} {M:List (List Int)} (h:aXz m M) (r c:Int):-12<=ent M r c/\ent M r c<=12:=by
 unfold Cf.ent
 by_cases d:r.toNat<M.length
 ·rw[zdG,zdH d]
  exact bGu (h.2.2 _ (List.getElem_mem d)) c
 ·rw[zdG,List.getElem?_eq_none (by omega)]
  simp[rd]
theorem bEj {m:Nat} {M:List (List Int)} (h:aXz m M) {rs cs:List Int} (hr:rs.length<=5) (hc:cs.length<=6):-1934917632<=aKj M rs cs/\aKj M rs cs<=1934917632:=by
 have h1:=aUu (B:=12) (by omega) h.ent rs cs hc
 have h2:((6*12:Int))^rs.length<=1934917632:=by
  match hl:rs.length,hr with
  | 0,_=>decide
  | 1,_=>decide
  | 2,_=>decide
  | 3,_=>decide
  | 4,_=>decide
  | 5,_=>decide
 omega
theorem aVb (n:Nat) (g:Nat->Int) (p:Nat):alt (n+1) (λi=>g (p+i))=g p-alt n (λi=>g (p+1+i)):=by
 show g (p+0)-_=_
 rw[Nat.add_zero]
 congr 1
 exact aFr λi _=>by show g (p+(i+1))=_;rw[show p+(i+1)=p+1+i by omega]
theorem aSe {m:Nat} (hm:m<=5) {M:List (List Int)} (hM:aXz m M) {r:Int} {rs:List Int} (hr:0<=r/\r<m) (hrs:rs.length<=4) {b:Nat} (hb:b<2^m)
  (ih:∀ b':Nat,b'<2^m->Ep (λk=>aAf.f k M rs (b':Int)) (·=aKj M rs (aF8 b'))) :
  ∀ (d c:Nat) (s σ:Int),c+d=m->(σ=1∨σ=-1)->(-(c*23219011584:Int)<=s/\s<=c*23219011584) ->
   Ep (λk=>aAf.l0 k M (r::rs) (b:Int) s σ (aDo M r) (m:Int) (c:Int))
    (·=s+σ*alt ((aF8 b).length-(aGo b c).length) λi=>ent M r ((aF8 b).getD ((aGo b c).length+i) 0)*aKj M rs ((aF8 b).eraseIdx ((aGo b c).length+i))):=by
 have h32:(2:Nat)^m<=32:=by
  have:=Nat.pow_le_pow_right (show 0<2 by omega) hm
  omega
 have hrow:(aDo M r).length=m:=by
  unfold aDo
  rw[zdG,zdH (by have:=hM.1;omega)]
  exact hM.2.1 _ (List.getElem_mem _)
 intro d
 induction d with
 | zero =>
  intro c s σ hc hσ hs
  refine Ep.up ?_
  simp only[aAf.l0]
  refine Ep.neg (by omega) (Ep.now ?_)
  have e:=bEx ⟨b,by omega⟩ ⟨c,by omega⟩ (by simp;rw[show c=m by omega];exact hb)
  simp only at e
  rw[e,Nat.sub_self]
  simp[alt]
 | succ d ihd =>
  intro c s σ hc hσ hs
  refine Ep.up ?_
  simp only[aAf.l0]
  refine Ep.pos (by omega) (Ep.pos (by omega) (Ep.pos (by omega) ?_))
  rw[wrap_succ (by omega)]
  have hsu:=aMr b c
  rcases aYu ⟨b,by omega⟩ ⟨c,by omega⟩ with ⟨b1,b2⟩|⟨b1,b2⟩
  ·simp only at b1 b2
   rw[if_pos b2]at hsu
   obtain⟨m',e1,e2,e3,e4⟩:=bBj ⟨b,by omega⟩ ⟨c,by omega⟩ b2
   simp only at e1 e2 e3 e4
   have hp:(aGo b c).length<(aF8 b).length:=by
    rw[List.getElem?_eq_some_iff]at e3
    exact e3.1
   have hg:(aF8 b).getD (aGo b c).length 0=(c:Int):=by rw[zdG,e3];rfl
   have hl1:(aGo b (c+1)).length=(aGo b c).length+1:=by rw[hsu];simp
   have hsplit:(aF8 b).length-(aGo b c).length=((aF8 b).length-(aGo b (c+1)).length)+1:=by omega
   have hent:rd (aDo M r) (c:Int)=ent M r (c:Int):=rfl
   have hbd:=hM.ent r (c:Int)
   have hdb:=bEj hM (rs:=rs) (cs:=aF8 m'.val) (by omega) (by have:=aP1 m'.val 6;exact this)
   rw[hsplit,aVb _ (λi=>ent M r ((aF8 b).getD i 0)*aKj M rs ((aF8 b).eraseIdx i)),hg,<-e2,<-hl1]
   refine Ep.neg (by rw[b1];omega) ?_
   rw[hent]
   by_cases hz:ent M r (c:Int)=0
   ·refine Ep.pos hz ?_
    have hneg:wrap64 (-σ)=-σ:=aCv (by omega) (by omega)
    rw[hneg]
    refine(ihd (c+1) s (-σ) (by omega) (by omega) (by omega)).mono λv hv=>?_
    rw[hv,hz,Int.zero_mul,Int.zero_sub,Int.mul_neg,Int.neg_mul]
   ·refine Ep.neg hz (Ep.pos (by rw[List.length_cons];omega) ?_)
    rw[e1]
    refine Ep.bind (ih m'.val (by omega)) ?_
    rintro _ rfl
    have hneg:wrap64 (-σ)=-σ:=aCv (by omega) (by omega)
    have hprod:=aYo hbd hdb
    have e5:wrap64 (σ*ent M r (c:Int))=σ*ent M r (c:Int):=by
     rcases hσ with rfl|rfl
     ·exact aCv (by omega) (by omega)
     ·exact aCv (by omega) (by omega)
    have e6:σ*ent M r (c:Int)*aKj M rs (aF8 m'.val)=σ*(ent M r (c:Int)*aKj M rs (aF8 m'.val)):=Int.mul_assoc _ _ _
    have hb2:-(23219011584:Int)<=σ*(ent M r (c:Int)*aKj M rs (aF8 m'.val))/\σ*(ent M r (c:Int)*aKj M rs (aF8 m'.val))<=23219011584:=by
     rcases hσ with rfl|rfl<;>omega
    rw[e5,e6]
    have e7:wrap64 (σ*(ent M r (c:Int)*aKj M rs (aF8 m'.val)))=σ*(ent M r (c:Int)*aKj M rs (aF8 m'.val)):=aCv (by omega) (by omega)
    have e8:wrap64 (s+σ*(ent M r (c:Int)*aKj M rs (aF8 m'.val)))=s+σ*(ent M r (c:Int)*aKj M rs (aF8 m'.val)):=aCv (by omega) (by omega)
    rw[e7,e8,hneg]
    refine(ihd (c+1) _ (-σ) (by omega) (by omega) (by omega)).mono λv hv=>?_
    rw[hv,Int.mul_sub,Int.neg_mul]
    omega
  ·simp only at b1 b2
   have b2':¬ b.testBit c=true:=by simpa using b2
   rw[if_neg b2',List.append_nil]at hsu
   refine Ep.pos b1 ?_
   have h:=ihd (c+1) s σ (by omega) hσ (by omega)
   rw[hsu]at h
   exact h
theorem aUj {m:Nat} (hm:m<=5) {M:List (List Int)} (hM:aXz m M):∀ (rs:List Int),rs.length<=5->(∀ r∈rs,0<=r/\r<(m:Int))->∀ b:Nat,b<2^m->Ep (λk=>aAf.f k M rs (b:Int)) (·=aKj M rs (aF8 b))
 | [],_,_,b,_=>by
  refine Ep.up ?_
  simp only[aAf.f]
  exact Ep.pos rfl (Ep.now rfl)
 | r::rs,hl,hr,b,hb=>by
  have hr0:=hr r List.mem_cons_self
  have hrow:(aDo M r).length=m:=by
   unfold aDo
   rw[zdG,zdH (by have:=hM.1;omega)]
   exact hM.2.1 _ (List.getElem_mem _)
  have ih:=aUj hm hM rs (by simp at hl;omega) (λx hx=>hr x (List.mem_cons_of_mem _ hx))
  refine Ep.up ?_
  simp only[aAf.f]
  have e:rd (r::rs) 0=r:=rfl
  refine Ep.neg (by rw[List.length_cons];omega) (Ep.pos (by rw[List.length_cons];omega) (Ep.pos (by rw[e];exact hr0.1) (Ep.pos (by rw[e,hM.1];exact hr0.2) ?_)))
  rw[e,hrow]
  refine(aSe hm hM hr0 (by simp at hl;omega) hb ih m 0 0 1 (by omega) (Or.inl rfl) (by omega)).mono λv hv=>?_
  rw[hv,show (aGo b 0).length=0 from rfl]
  simp only[Nat.sub_zero,Nat.zero_add,Int.zero_add,Int.one_mul]
  rfl
theorem aSb {m:Nat} (hm:m<=5) {M:List (List Int)} (hM:aXz m M):∀ (d i:Nat),i+d=m->Ep (λk=>aBm.l0 k M M (m:Int) (i:Int)) (·=true):=by
 intro d
 induction d with
 | zero =>
  intro i hi
  refine Ep.up ?_
  simp only[aBm.l0]
  exact Ep.neg (by omega) (Ep.now rfl)
 | succ d ih =>
  intro i hi
  have hml:=hM.1
  have hlt:i<M.length:=by omega
  have e:aDo M (i:Int)=M[i]:=by
   unfold aDo
   rw[Int.toNat_natCast,zdG,zdH hlt]
   rfl
  have h1:=hM.2.1 _ (List.getElem_mem hlt)
  have h2:=hM.2.2 _ (List.getElem_mem hlt)
  refine Ep.up ?_
  simp only[aBm.l0]
  refine Ep.pos (by omega) (Ep.pos (by omega) (Ep.pos (by omega) (Ep.pos (by rw[e];omega) ?_)))
  rw[e]
  refine Ep.bind (aK4 _ _ _ (by omega)) ?_
  rintro _ rfl
  refine Ep.pos (zdY λx hx=>by have:=h2 x hx;omega) ?_
  rw[wrap_succ (by omega)]
  exact ih (i+1) (by omega)
theorem aOp {m:Nat} (hm:m<=5) {M:List (List Int)} (hM:aXz m M):Ep (λk=>aBm.f k M) (·=true):=by
 simp only[aBm.f]
 have hml:=hM.1
 refine Ep.neg (by omega) ?_
 rw[hml]
 exact aSb hm hM m 0 (by omega)
def upTo (m:Nat):List Int:=(List.range m).map λj:Nat=>(j:Int)
theorem aLh {m:Nat} (hm:m<=5) {M:List (List Int)} (hM:aXz m M):Ep (λk=>aBr.f k M) (·=aKj M (upTo m) (upTo m)):=by
 simp only[aBr.f]
 refine Ep.bind (aOp hm hM) ?_
 rintro _ rfl
 refine Ep.pos rfl ?_
 obtain⟨h1,h2,h3,h4⟩:=bBi (i:=m) (by omega)
 rw[hM.1,h2]
 refine Ep.bind (aXf h4) ?_
 rintro _ rfl
 rw[h1]
 have hpos:0<2^m:=Nat.pow_pos (by omega)
 refine Ep.bind (aUj hm hM _ (by simp;exact hm) (λr hr=>?_) (2^m-1) (by omega)) ?_
 ·obtain⟨j,hj,rfl⟩:=List.mem_map.1 hr
  have:=List.mem_range.1 hj
  omega
 ·rintro _ rfl
  rw[h1]
  exact Ep.now rfl
theorem bA6 {n q:Nat} (hq:q<n) {es:List E} (hel:es.length<=12):aXz (n-1) (aSx n es q):=by
 refine⟨aWq hq es,λr hr=>?_,λr hr x hx=>?_⟩
 ·unfold aSx at hr
  obtain⟨v,_,rfl⟩:=List.mem_map.1 hr
  rw[List.length_map,aJ8 hq]
 ·unfold aSx at hr
  obtain⟨v,_,rfl⟩:=List.mem_map.1 hr
  obtain⟨w,_,rfl⟩:=List.mem_map.1 hx
  exact bAk hel _ _
def vAt (vs:List Int) (i:Int):Int:=vs.getD i.toNat 0
theorem aWr {n q:Nat} (hq:q<n) (es:List E) {r c:Int} (hr:0<=r/\r<((n-1:Nat):Int)) (hc:0<=c/\c<((n-1:Nat):Int)):ent (aSx n es q) r c=aH6 es (vAt (vsL n q) r) (vAt (vsL n q) c):=by
 have hl:=aJ8 hq
 unfold ent aSx rd vAt
 rw[getD_map (λr=>(vsL n q).map λc=>aH6 es r c) (vsL n q) r.toNat 0 [] (by omega),getD_map (λc=>aH6 es _ c) (vsL n q) c.toNat 0 0 (by omega)]
theorem aOw {M:List (List Int)} {A:Int->Int->Int} {v:Int->Int}:∀ (rs cs:List Int),(∀ r∈rs,∀ c∈cs,ent M r c=A (v r) (v c))->aKj M rs cs=aH9 (rs.map v) (cs.map λc r=>A r (v c))
 | [],cs,_=>rfl
 | r::rs,cs,h=>by
  show (alt cs.length λi=>ent M r (cs.getD i 0)*aKj M rs (cs.eraseIdx i))=alt (cs.map λc r=>A r (v c)).length λi=>((cs.map λc r=>A r (v c)).getD i z0) (v r)*aH9 (rs.map v) ((cs.map λc r=>A r (v c)).eraseIdx i)
  rw[List.length_map]
  refine aFr λi hi=>?_
  rw[getD_map (λc r=>A r (v c)) cs i 0 z0 hi,map_eraseIdx,aOw rs (cs.eraseIdx i) λr' hr' c hc=>h r' (List.mem_cons_of_mem _ hr') c (List.mem_of_mem_eraseIdx hc),h r List.mem_cons_self _ (getD_mem 0 hi)]
theorem aQh {m:Nat} {x:Int}:x∈upTo m↔0<=x/\x<m:=by
 unfold upTo
 rw[List.mem_map]
 constructor
 ·rintro⟨j,hj,rfl⟩
  have:=List.mem_range.1 hj
  omega
 ·exact λh=>⟨x.toNat,List.mem_range.2 (by omega),by omega⟩
theorem aWd (vs:List Int):(upTo vs.length).map (vAt vs)=vs:=by
 unfold upTo
 rw[List.map_map]
 refine List.ext_getElem (by simp) λi h1 h2=>?_
 simp[vAt,List.getD,h2]
theorem aWs {n q:Nat} (hq:q<n) (es:List E):aKj (aSx n es q) (upTo (n-1)) (upTo (n-1))=aJo es (vsL n q):=by
 rw[aOw (A:=aH6 es) (v:=vAt (vsL n q)) _ _ λr hr c hc=>aWr hq es (aQh.1 hr) (aQh.1 hc)]
 unfold aJo
 have e:=aWd (vsL n q)
 rw[aJ8 hq]at e
 have e2:(upTo (n-1)).map (λ(c r:Int)=>aH6 es r (vAt (vsL n q) c))=((upTo (n-1)).map (vAt (vsL n q))).map λc r=>aH6 es r c:=by rw[List.map_map];rfl
 rw[e2,e]
theorem aM3 {n:Nat} {es:List E} (hg:GOk (n:Int) es):Ep (λk=>aCo.f k (n:Int) es) (·=aJo es (vsL n 0)):=by
 have hG:=hg.1
 unfold aHb at hG
 simp only[aCo.f]
 refine Ep.aEu (aHk _ _) ?_
 rw[aEp.2 hg]
 refine Ep.pos rfl (Ep.bind (bDw hg (q:=0) (by omega)) ?_)
 rintro _ rfl
 refine Ep.bind (aLh (by omega) (bA6 (q:=0) (by omega) hG.2.2.1)) ?_
 rintro _ rfl
 rw[aWs (by omega)]
 exact Ep.now rfl
end Cf
namespace P
mutual
def aBj.l0:Nat->List (List Int)->Int->Int->List (S73)->Option ((List (List Int)))
 | 0,_,_,_,_=>none
 | k+1,x3,x4,aU,aM=>if x4<aU then(aBj.l1 k x3 x4 (([]:List Int)) 0 aU aM) else(some x3)
def aBj.l1:Nat->List (List Int)->Int->List Int->Int->Int->List (S73)->Option ((List (List Int)))
 | 0,_,_,_,_,_,_=>none
 | k+1,x3,x4,x5,x6,aU,aM=>if x6<aU then(if x4=x6 then((aCu.f k aU aM x4).bind λjD=>(if x5.length<17592186044416 then(aBj.l1 k x3 x4 (x5++[jD]) (wrap64 (x6+1)) aU aM) else(none))) else((aAe.f k aU aM x4 x6).bind λrE=>(if x5.length<17592186044416 then(aBj.l1 k x3 x4 (x5++[wrap64 (-rE)]) (wrap64 (x6+1)) aU aM) else(none)))) else(if x3.length<5864062014805 then(aBj.l0 k (x3++[x5]) (wrap64 (x4+1)) aU aM) else(none))
end
def aBj.f (k:Nat) (aE:Int) (aC:List (S73)):Option ((List (List Int))):=(aAo.f k aE aC).bind λaX=>(if aX=true then(aBj.l0 k (([]:List (List Int))) 0 aE aC) else(some ([]:List (List Int))))
theorem aBj.aBa:∀ k,(∀ y0 y1 y2 y3,LeO (aBj.l0 k y0 y1 y2 y3) (aBj.l0 (k+1) y0 y1 y2 y3))/\(∀ y0 y1 y2 y3 y4 y5,LeO (aBj.l1 k y0 y1 y2 y3 y4 y5) (aBj.l1 (k+1) y0 y1 y2 y3 y4 y5))
 | 0=>⟨λ_ _ _ _ r h=>by simp[aBj.l0]at h,λ_ _ _ _ _ _ r h=>by simp[aBj.l1]at h⟩
 | k+1=>by
  obtain⟨ih0,ih1⟩:=aBj.aBa k
  refine⟨?_,?_⟩
  ·intro y0 y1 y2 y3
   unfold aBj.l0
   exact zm7
  ·intro y0 y1 y2 y3 y4 y5
   unfold aBj.l1
   exact zm7
theorem aBj.mono:∀ a0 a1 k,LeO (aBj.f k a0 a1) (aBj.f (k+1) a0 a1):=by
 intro a0 a1 k;obtain⟨ih0,ih1⟩:=aBj.aBa k;unfold aBj.f;exact zm7
def aDa.f (k:Nat) (aE:Int) (aC:List S73) (a1:Int):Option (List (List Int)):=(aAo.f k aE aC).bind λt=>if t=true then(aCj.f a1 0 (wrap64 (aE-1))).bind λu=>if u=true then(aBj.f k aE aC).bind λL=>if ∀ r∈L,r.length<=1000000 then Cf.bCc a1 L else none else some [] else some []
theorem aDa.mono:∀ a0 a1 a2 k,LeO (aDa.f k a0 a1 a2) (aDa.f (k+1) a0 a1 a2):=by
 intro a0 a1 a2 k;unfold aDa.f;exact LeO.bind (aAo.mono _ _ k) λt=>LeO.ite (LeO.bind (LeO.refl _) λu=>LeO.ite (LeO.bind (aBj.mono _ _ k) λ_=>LeO.refl _) (LeO.refl _)) (LeO.refl _)
mutual
def aC5.l0:Nat->List (List Int)->List (List Int)->Int->Int->Option (Bool)
 | 0,_,_,_,_=>none
 | k+1,x0,fK,eJ,k5=>if k5<eJ then(if 0<=k5 then(if k5<(fK.length:Int) then(if((aDo fK k5).length:Int)=(x0.length:Int) then(aC5.l1 k x0 fK eJ k5 (aDo fK k5) ((aDo fK k5).length:Int) 0) else(some false)) else(none)) else(none)) else(some true)
def aC5.l1:Nat->List (List Int)->List (List Int)->Int->Int->List Int->Int->Int->Option (Bool)
 | 0,_,_,_,_,_,_,_=>none
 | k+1,x0,fK,eJ,k5,oM,uT,u4=>if u4<uT then(if 0<=u4 then(if u4<(oM.length:Int) then((aCj.f (rd oM u4) (-500) 500).bind λbE=>(if bE=true then(aC5.l1 k x0 fK eJ k5 oM uT (wrap64 (u4+1))) else(some false))) else(none)) else(none)) else(aC5.l0 k x0 fK eJ (wrap64 (k5+1)))
end
def aC5.f (k:Nat) (l0:List (List Int)):Option (Bool):=if(l0.length:Int)>6 then(some false) else(aC5.l0 k l0 l0 (l0.length:Int) 0)
theorem aC5.aBa:∀ k,(∀ y0 y1 y2 y3,LeO (aC5.l0 k y0 y1 y2 y3) (aC5.l0 (k+1) y0 y1 y2 y3))/\(∀ y0 y1 y2 y3 y4 y5 y6,LeO (aC5.l1 k y0 y1 y2 y3 y4 y5 y6) (aC5.l1 (k+1) y0 y1 y2 y3 y4 y5 y6))
 | 0=>⟨λ_ _ _ _ r h=>by simp[aC5.l0]at h,λ_ _ _ _ _ _ _ r h=>by simp[aC5.l1]at h⟩
 | k+1=>by
  obtain⟨ih0,ih1⟩:=aC5.aBa k
  refine⟨?_,?_⟩
  ·intro y0 y1 y2 y3
   unfold aC5.l0
   exact zm1
  ·intro y0 y1 y2 y3 y4 y5 y6
   unfold aC5.l1
   exact zm1
theorem aC5.mono:∀ a0 k,LeO (aC5.f k a0) (aC5.f (k+1) a0):=by
 intro a0 k;obtain⟨ih0,ih1⟩:=aC5.aBa k;unfold aC5.f;exact zm1
mutual
def aCs.l0:Nat->List (List Int)->List Int->List Int->Int->Int->List Int->Int->Int->Option (Int)
 | 0,_,_,_,_,_,_,_,_=>none
 | k+1,x0,x1,x2,x7,x8,lZ,kW,kR=>if kR<kW then(if 0<=kR then(if kR<(lZ.length:Int) then(if 0<(x1.length:Int) then(if 0<=(rd x1 0) then(if(rd x1 0)<(x0.length:Int) then(if 0<=(rd lZ kR) then(if(rd lZ kR)<((aDo x0 (rd x1 0)).length:Int) then(if(rd (aDo x0 (rd x1 0)) (rd lZ kR))=0 then(aCs.l0 k x0 x1 x2 x7 (wrap64 (-x8)) lZ kW (wrap64 (kR+1))) else((some (([]:List Int):List Int)).bind λi8=>(if kR<=(x2.length:Int) then(if i8.length+(x2.take (kR:Int).toNat).length<17592186044416 then((some (i8++(x2.take (kR:Int).toNat):List Int)).bind λcX=>(if 0<=(wrap64 (kR+1)) then(if(wrap64 (kR+1))<=(x2.length:Int) then(if cX.length+(x2.drop ((wrap64 (kR+1)):Int).toNat).length<17592186044416 then(if 1<=(x1.length:Int) then((aCs.f k x0 (x1.drop 1) (cX++(x2.drop ((wrap64 (kR+1)):Int).toNat))).bind λG2=>(aCs.l0 k x0 x1 x2 (wrap64 (x7+(wrap64 ((wrap64 (x8*(rd (aDo x0 (rd x1 0)) (rd lZ kR))))*G2)))) (wrap64 (-x8)) lZ kW (wrap64 (kR+1)))) else(none)) else(none)) else(none)) else(none))) else(none)) else(none)))) else(none)) else(none)) else(none)) else(none)) else(none)) else(none)) else(none)) else(some x7)
def aCs.f:Nat->List (List Int)->List Int->List Int->Option (Int)
 | 0,_,_,_=>none
 | k+1,l0,l1,l2=>if(l1.length:Int)=0 then(some 1) else(aCs.l0 k l0 l1 l2 0 1 l2 (l2.length:Int) 0)
end
theorem aCs.aBa:∀ k,(∀ y0 y1 y2,LeO (aCs.f k y0 y1 y2) (aCs.f (k+1) y0 y1 y2))/\(∀ y0 y1 y2 y3 y4 y5 y6 y7,LeO (aCs.l0 k y0 y1 y2 y3 y4 y5 y6 y7) (aCs.l0 (k+1) y0 y1 y2 y3 y4 y5 y6 y7))
 | 0=>⟨λ_ _ _ r h=>by simp[aCs.f]at h,λ_ _ _ _ _ _ _ _ r h=>by simp[aCs.l0]at h⟩
 | k+1=>by
  obtain⟨ih0,ih1⟩:=aCs.aBa k
  refine⟨?_,?_⟩
  ·intro y0 y1 y2
   unfold aCs.f
   exact zm1
  ·intro y0 y1 y2 y3 y4 y5 y6 y7
   unfold aCs.l0
   exact zm1
theorem aCs.mono:∀ a0 a1 a2 k,LeO (aCs.f k a0 a1 a2) (aCs.f (k+1) a0 a1 a2):=by
 intro a0 a1 a2 k;obtain⟨ih0,ih1⟩:=aCs.aBa k;exact ih0 a0 a1 a2
def aNx.f (a0 a1:Int):Option (List (List Int)):=if 0<=a0/\a0<=12/\0<=a1/\a1<=6 then some (Cf.aWl a0.toNat a1.toNat) else none
def aD6.l0:Nat->Int->List Int->Int->Option (List Int)
 | 0,_,_,_=>none
 | k+1,x0,x3,x4=>if x4<x0 then(if x3.length<17592186044416 then(aD6.l0 k x0 (x3++[x4]) (wrap64 (x4+1))) else(none)) else(some x3)
def aD6.f (k:Nat) (a0:Int):Option (List Int):=aD6.l0 k a0 (([]:List Int)) 0
theorem aD6.aBa:∀ k,(∀ y0 y1 y2,LeO (aD6.l0 k y0 y1 y2) (aD6.l0 (k+1) y0 y1 y2))
 | 0=>λ_ _ _ r h=>by simp[aD6.l0]at h
 | k+1=>by
  have ih0:=aD6.aBa k
  ·intro y0 y1 y2
   unfold aD6.l0
   exact zm0
theorem aD6.mono:∀ a0 k,LeO (aD6.f k a0) (aD6.f (k+1) a0):=by
 intro a0 k;have ih0:=aD6.aBa k;unfold aD6.f;exact zm0
def aDv.f (k:Nat) (l0:List (List Int)):Option (Int):=(aC5.f k l0).bind λbP=>(if bP=true then((aD6.f k (l0.length:Int)).bind λaX=>((aD6.f k (l0.length:Int)).bind λeG=>((aCs.f k l0 aX eG).bind λfE=>(some fE)))) else(some 0))
theorem aDv.mono:∀ a0 k,LeO (aDv.f k a0) (aDv.f (k+1) a0):=by
 intro a0 k;unfold aDv.f;repeat' first|(with_reducible apply aC5.mono)|(with_reducible apply aD6.mono)|(with_reducible apply aCs.mono)|(with_reducible exact LeO.refl _)|(with_reducible exact LeO.none _)|(with_reducible refine LeO.ite ?_ ?_)|(with_reducible refine LeO.bind ?_ (λ_=>?_))|apply aC5.mono|apply aD6.mono|apply aCs.mono|exact LeO.none _|refine LeO.ite ?_ ?_|refine LeO.bind ?_ (λ_=>?_)
def aE6.f (k:Nat) (aE:Int) (aC:List (S73)):Option (Int):=(aAo.f k aE aC).bind λaX=>(if aX=true then((aDa.f k aE aC 0).bind λbE=>((aDv.f k bE).bind λb3=>(some b3))) else(some 0))
theorem aE6.mono:∀ a0 a1 k,LeO (aE6.f k a0 a1) (aE6.f (k+1) a0 a1):=by
 intro a0 a1 k;unfold aE6.f;repeat' first|(with_reducible apply aDv.mono)|(with_reducible apply aAo.mono)|(with_reducible apply aDa.mono)|(with_reducible exact LeO.refl _)|(with_reducible exact LeO.none _)|(with_reducible refine LeO.ite ?_ ?_)|(with_reducible refine LeO.bind ?_ (λ_=>?_))|apply aDv.mono|apply aAo.mono|apply aDa.mono|exact LeO.none _|refine LeO.ite ?_ ?_|refine LeO.bind ?_ (λ_=>?_)
mutual
def aCh.j0:Nat->Bool->Int->List (S73)->Option ((List (List Int))×Bool)
 | 0,_,_,_=>none
 | k+1,oO,aU,aM=>if oO=true then(some (([]:List (List Int)),false)) else((aNx.f (aM.length:Int) (wrap64 (aU-1))).bind λgW=>(aCh.l0 k (([]:List (List Int))) gW (gW.length:Int) 0 aU aM))
def aCh.l0:Nat->List (List Int)->List (List Int)->Int->Int->Int->List (S73)->Option ((List (List Int))×Bool)
 | 0,_,_,_,_,_,_=>none
 | k+1,x4,uT,u4,u2,aU,aM=>if u2<u4 then(if 0<=u2 then(if u2<(uT.length:Int) then((aCt.f k aU aM (aDo uT u2)).bind λjG=>(if jG=true then(if x4.length<5864062014805 then(aCh.l0 k (x4++[aDo uT u2]) uT u4 (wrap64 (u2+1)) aU aM) else(none)) else(aCh.l0 k x4 uT u4 (wrap64 (u2+1)) aU aM))) else(none)) else(none)) else(some (x4,true))
end
def aCh.f (k:Nat) (aE:Int) (aC:List (S73)):Option ((List (List Int))×Bool):=(aAo.f k aE aC).bind λaX=>(if aX=true then((aE6.f k aE aC).bind λbE=>(aCh.j0 k (decide (bE>400)) aE aC)) else(aCh.j0 k true aE aC))
theorem aCh.aBa:∀ k,(∀ y0 y1 y2,LeO (aCh.j0 k y0 y1 y2) (aCh.j0 (k+1) y0 y1 y2))/\(∀ y0 y1 y2 y3 y4 y5,LeO (aCh.l0 k y0 y1 y2 y3 y4 y5) (aCh.l0 (k+1) y0 y1 y2 y3 y4 y5))
 | 0=>⟨λ_ _ _ r h=>by simp[aCh.j0]at h,λ_ _ _ _ _ _ r h=>by simp[aCh.l0]at h⟩
 | k+1=>by
  obtain⟨ih0,ih1⟩:=aCh.aBa k
  refine⟨?_,?_⟩
  ·intro y0 y1 y2
   unfold aCh.j0
   exact zm9
  ·intro y0 y1 y2 y3 y4 y5
   unfold aCh.l0
   exact zm9
theorem aCh.mono:∀ a0 a1 k,LeO (aCh.f k a0 a1) (aCh.f (k+1) a0 a1):=by
 intro a0 a1 k;obtain⟨ih0,ih1⟩:=aCh.aBa k;unfold aCh.f;exact zm9
abbrev aEe.ok (k:Nat) (aE:Int) (aC:List S73):Prop:=(1<=aE/\aE<=6)/\aC.length<=12/\∀ s∈Cf.aWl aC.length (aE.toNat-1),(aCe.f k aE aC s).isSome=true
def aEe.f (k:Nat) (aE:Int) (aC:List S73):Option (List (List Int)×Bool) :=
 (aC6.f aE aC).bind λt=>if t=true then(aCo.f k aE aC).bind λc=>if c<=400 then(if aEe.ok k aE aC then some ((Cf.aWl aC.length (aE.toNat-1)).filter (λt=>aCe.f k aE aC t==some true),true) else none) else some ([],false) else some ([],false)
theorem aEe.mono:∀ a0 a1 k,LeO (aEe.f k a0 a1) (aEe.f (k+1) a0 a1):=by
 intro a0 a1 k;unfold aEe.f;(refine LeO.bind (LeO.refl _) λt=>LeO.ite (LeO.bind (aCo.mono _ _ k) λc=>LeO.ite ?_ (LeO.refl _)) (LeO.refl _));intro r h;by_cases hc:aEe.ok k a0 a1;rotate_left
 ·rw[if_neg hc]at h;cases h
 rw[if_pos hc]at h;have h1:aEe.ok (k+1) a0 a1:=⟨hc.1,hc.2.1,λs hs=>by obtain⟨b,hb⟩:=Option.isSome_iff_exists.1 (hc.2.2 s hs);rw[aCe.mono _ _ _ k _ hb];rfl⟩;rw[if_pos h1,<-h];(congr 2);(refine List.filter_congr λs hs=>?_);obtain⟨b,hb⟩:=Option.isSome_iff_exists.1 (hc.2.2 s hs);rw[hb,aCe.mono _ _ _ k _ hb]
end P
namespace Cf
open P
theorem Ep.all {α β:Type} {f:Nat->α->Option β} {g:α->β}:∀ (L:List α),(∀ x∈L,Ep (λk=>f k x) (·=g x))->∃ K,∀ k,K<=k->∀ x∈L,f k x=some (g x)
 | [],_=>⟨0,λk _ x hx=>absurd hx List.not_mem_nil⟩
 | a::L,h=>by
  obtain⟨K,hK⟩:=Ep.all L λx hx=>h x (List.mem_cons_of_mem _ hx)
  obtain⟨_,rfl,J,hJ⟩:=h a List.mem_cons_self
  refine⟨max K J,λk hk x hx=>?_⟩
  rcases List.mem_cons.1 hx with rfl|hx
  ·exact hJ k (by omega)
  ·exact hK k (by omega) x hx
def lexB:List Int->List Int->Bool
 | x::xs,y::ys=>if x=y then lexB xs ys else decide (x<y)
 | _,_=>false
theorem aMj:∀ {a b:List Int},lexB a b=true->lexB b a=false
 | [],b,h=>by simp[lexB]at h
 | x::xs,[],h=>by simp[lexB]at h
 | x::xs,y::ys,h=>by
  unfold lexB at h ⊢
  by_cases e:x=y
  ·rw[if_pos e]at h
   rw[if_pos e.symm]
   exact aMj h
  ·rw[if_neg e]at h
   rw[if_neg (λh2=>e h2.symm)]
   have:=zdT h
   exact zdN (by omega)
theorem aR0:∀ {a b:List Int} (s t:List Int),a.length=b.length->lexB a b=true->lexB (a++s) (b++t)=true
 | [],b,s,t,_,h=>by simp[lexB]at h
 | x::xs,[],s,t,_,h=>by simp[lexB]at h
 | x::xs,y::ys,s,t,hl,h=>by
  unfold lexB at h
  show (if x=y then lexB (xs++s) (ys++t) else decide (x<y))=true
  by_cases e:x=y
  ·rw[if_pos e]at h ⊢
   exact aR0 s t (by simpa using hl) h
  ·rw[if_neg e]at h ⊢
   exact h
theorem aOh:∀ (a:List Int) (s t:Int),s<t->lexB (a++[s]) (a++[t])=true
 | [],s,t,h=>by
  show (if s=t then lexB [] [] else decide (s<t))=true
  rw[if_neg (by omega)]
  exact zdY h
 | x::xs,s,t,h=>by
  show (if x=x then lexB (xs++[s]) (xs++[t]) else decide (x<x))=true
  rw[if_pos rfl]
  exact aOh xs s t h
theorem aV5 (c:Nat->Nat):∀ n,(aGk c n).Pairwise (λa b=>lexB a b=true)
 | 0=>List.pairwise_singleton _ _
 | n+1=>by
  rw[aGk,List.pairwise_flatMap]
  refine⟨λa _=>?_,?_⟩
  ·unfold aLi
   rw[List.pairwise_map]
   exact List.pairwise_lt_range.imp λh=>aOh a _ _ (by omega)
  ·refine List.Pairwise.imp_of_mem ?_ (aV5 c n)
   intro a b ha hb h x hx y hy
   unfold aLi at hx hy
   obtain⟨s,_,rfl⟩:=List.mem_map.1 hx
   obtain⟨t,_,rfl⟩:=List.mem_map.1 hy
   exact aR0 _ _ ((aG6 ha).1.trans (aG6 hb).1.symm) h
def aK3 (es:List E) (q:Int) (v:Nat):Nat:=if(v:Int)=q then 1 else(val es (v:Int)).toNat
def pB (n:Nat) (es:List E) (q:Int) (x:List Int):Bool:=decide ((aLp n es (rd x) q).length=n)
def aM1 (n:Nat) (es:List E) (q:Int):List (List Int):=(aGk (aK3 es q) n).filter (pB n es q)
theorem aHn {c d:Nat->Nat}:∀ {n:Nat},(∀ v,v<n->c v=d v)->aGk c n=aGk d n
 | 0,_=>rfl
 | n+1,h=>by rw[aGk,aGk,aHn λv hv=>h v (by omega),h n (by omega)]
theorem aRg {c:Nat->Nat} {b q:Nat} (hb:1<=b) (hq:c q<=1):∀ {v:Nat},(∀ u,u<v->c u<=b)->(aGk c v).length<=if q<v then b^(v-1) else b^v
 | 0,_=>by rw[if_neg (by omega)];exact Nat.le_refl _
 | v+1,h=>by
  have ih:=aRg hb hq (v:=v) λu hu=>h u (by omega)
  show ((aGk c v).flatMap (aLi (c v))).length<=_
  rw[aHm]
  by_cases e:q<v
  ·rw[if_pos e]at ih
   rw[if_pos (by omega)]
   have:=Nat.mul_le_mul ih (h v (by omega))
   rwa[<-Nat.pow_succ,show (v-1).succ=v+1-1 by omega]at this
  ·rw[if_neg e]at ih
   by_cases e2:q=v
   ·subst e2
    rw[if_pos (by omega),Nat.add_sub_cancel]
    have:=Nat.mul_le_mul ih hq
    omega
   ·rw[if_neg (by omega),Nat.pow_succ]
    exact Nat.mul_le_mul ih (h v (by omega))
section
variable {n:Nat} {es:List E} {q:Int}
theorem aYh (g:Gr n es q) (v:Int):val es v<=12:=by have:=aM8 es v;have:=g.hel;omega
theorem aYg (g:Gr n es q) {v:Nat} (hv:v<n) (hne:(v:Int)≠q):1<=val es (v:Int):=by
 have:=aTd g.hj g.hq ⟨by omega,by omega⟩ hne
 omega
theorem aUz (g:Gr n es q) (v:Nat):aK3 es q v<=12:=by
 unfold aK3
 have:=aYh g (v:Int)
 split<;>omega
theorem aXx (g:Gr n es q) {v:Nat} (hv:v<n):1<=aK3 es q v:=by
 unfold aK3
 split
 ·exact Nat.le_refl _
 ·rename_i h
  have:=aYg g hv h
  omega
theorem bEu (g:Gr n es q):(aGk (aK3 es q) n).length<=248832:=by
 have hq:=g.hq
 have h6:=g.n6
 have h:=aRg (c:=aK3 es q) (b:=12) (q:=q.toNat) (by omega) (by unfold aK3;rw[if_pos (by omega)];exact Nat.le_refl _) (v:=n) λu _=>aUz g u
 rw[if_pos (by omega)]at h
 exact Nat.le_trans h (Nat.pow_le_pow_right (n:=12) (by omega) (show n-1<=5 by omega))
theorem bBh (g:Gr n es q):0<(aGk (aK3 es q) n).length:=by
 have key:∀ m,m<=n->0<(aGk (aK3 es q) m).length:=by
  intro m
  induction m with
  | zero=>intro _;exact Nat.one_pos
  | succ m ih =>
   intro hm
   show 0<((aGk (aK3 es q) m).flatMap (aLi (aK3 es q m))).length
   rw[aHm]
   exact Nat.mul_pos (ih (by omega)) (aXx g (by omega))
 exact key n (Nat.le_refl _)
theorem bBg (g:Gr n es q) (x:List Int):(aLp n es (rd x) q).length<=n:=(aNl (es:=es) (d:=rd x) g.hq).1.len g.hq
theorem aHw {x:List Int} (h:x∈aM1 n es q):x.length=n/\∀ (j:Nat) (hj:j<x.length),0<=x[j]/\x[j]<(aK3 es q j:Int):=aG6 (List.mem_filter.1 h).1
theorem aWu (g:Gr n es q):(aM1 n es q).length<=248832:=Nat.le_trans (List.length_filter_le _ _) (bEu g)
theorem aYl (g:Gr n es q) {x:List Int} (h:x∈aM1 n es q):x.getD q.toNat 0=0:=by
 have hq:=g.hq
 obtain⟨h1,h2⟩:=aHw h
 have hl:q.toNat<x.length:=by omega
 have h3:=h2 q.toNat hl
 have h4:aK3 es q q.toNat=1:=by unfold aK3;rw[if_pos (by omega)]
 rw[h4]at h3
 rw[zdG,zdH hl]
 simp only[Option.getD_some]
 omega
theorem bAm (g:Gr n es q):Ep (λk=>aA5.f k (n:Int) es q) (·=aM1 n es q):=by
 have h6:=g.n6
 have hel:=g.hel
 obtain⟨K1,hK1⟩:=Ep.all (f:=λk (v:Nat)=>aAy.f k (n:Int) es (v:Int)) (g:=λv=>bCb (n:Int) es (v:Int)) (List.range n) λv _=>aIg (n:Int) es (v:Int) (by omega)
 obtain⟨K2,hK2⟩:=Ep.all (f:=λk x=>aB0.f k (n:Int) es x q) (g:=λx=>aLp n es (rd x) q) (aGk (aK3 es q) n) λx hx=>aR8 g x (aG6 hx).1
 refine⟨_,rfl,max K1 K2,λk hk=>?_⟩
 have hv:∀ v,v<n->aAy.f k (n:Int) es (v:Int)=some (val es (v:Int)):=λv hv=>by rw[hK1 k (by omega) v (List.mem_range.2 hv),aPi ⟨by omega,by omega⟩]
 have hb:=hK2 k (by omega)
 have e1:aGk (aA5.cnt k (n:Int) es q) n=aGk (aK3 es q) n:=aHn λv hv'=>by
  unfold aA5.cnt aK3
  rw[hv v hv']
  rfl
 have hnn:((n:Int)).toNat=n:=Int.toNat_natCast n
 show aA5.f k (n:Int) es q=some (aM1 n es q)
 unfold aA5.f
 rw[if_pos]
 ·rw[hnn,e1]
  congr 1
  refine List.filter_congr λx hx=>?_
  have hle:=bBg g x
  unfold aA5.pr pB
  rw[hb x hx]
  show (!decide (((aLp n es (rd x) q).length:Int)<(n:Int)))=decide ((aLp n es (rd x) q).length=n)
  by_cases e:(aLp n es (rd x) q).length=n
  ·rw[zdY e,zdN (by omega)];rfl
  ·rw[zdN e,zdY (by omega)];rfl
 ·refine⟨⟨by omega,λv hv'=>?_⟩,λx hx=>?_,?_⟩
  ·rw[hnn]at hv'
   rw[hv v hv']
   have h0:0<=val es (v:Int):=by
    by_cases e:(v:Int)=q
    ·exact aJ9 es _
    ·have:=aYg g hv' e;omega
   have:=aYh g (v:Int)
   exact⟨rfl,by simpa using h0,by simp only[Option.getD_some];omega⟩
  ·rw[hnn,e1]at hx
   rw[hb x hx]
   rfl
  ·rw[hnn,e1]
   exact bBh g
end
theorem aUg {n:Nat} {es:List E} (hg:GOk (n:Int) es):Ep (λk=>aC9.f k (n:Int) es) (·=aJo es (vsL n 0)):=by
 simp only[aC9.f]
 refine Ep.bind (aM3 hg) ?_
 rintro _ rfl
 exact Ep.now rfl
end Cf
namespace Cf
open P
theorem cmpK (a b:Int):cmp_Compare_int.f a b=some (if a<b then -1 else if a>b then 1 else 0):=by
 by_cases h1:a<b
 ·simp[cmp_Compare_int.f,cmp_isNaN_int.f,h1]
 ·by_cases h2:b<a<;>simp[cmp_Compare_int.f,cmp_isNaN_int.f,h1,h2]
theorem bEr (a b:List Int) (hl:a.length=b.length) (hb:a.length<=1000):∀ (d i:Nat),i+d=a.length->Ep (λk=>aAp.l0 k a b a (a.length:Int) (i:Int)) (·=aH5 (a.drop i) (b.drop i)):=by
 intro d
 induction d with
 | zero =>
  intro i hi
  refine Ep.up ?_
  simp only[aAp.l0]
  refine Ep.neg (by omega) (Ep.neg (by omega) (Ep.now ?_))
  rw[List.drop_eq_nil_of_le (by omega),List.drop_eq_nil_of_le (by omega)]
  rfl
 | succ d ih =>
  intro i hi
  have h:=ih (i+1) (by omega)
  have ha:i<a.length:=by omega
  have hb2:i<b.length:=by omega
  refine Ep.up ?_
  simp only[aAp.l0]
  refine Ep.pos (by omega) (Ep.pos (by omega) (Ep.pos (by omega) (Ep.neg (by omega) (Ep.pos (by omega) (Ep.aEu (cmpK _ _) ?_)))))
  rw[List.drop_eq_getElem_cons ha,List.drop_eq_getElem_cons hb2,aEh ha,aEh hb2,wrap_succ (by omega)]
  by_cases e:a[i]=b[i]
  ·refine Ep.pos (by rw[if_neg (by omega),if_neg (by omega)]) (h.mono λr hr=>hr.trans ?_)
   show _=if a[i]=b[i] then _ else _
   rw[if_pos e]
  ·refine Ep.neg (by split;omega;split;omega;omega) (Ep.now ?_)
   show _=if a[i]=b[i] then _ else _
   rw[if_neg e]
   by_cases c:a[i]<b[i]
   ·rw[if_pos c,if_pos c]
   ·rw[if_neg c,if_neg c,if_pos (by omega)]
theorem bLd (a b:List Int) (hl:a.length=b.length) (hb:a.length<=1000):Ep (λk=>aAp.f k a b) (·=aH5 a b):=by
 simp only[aAp.f]
 exact bEr a b hl hb a.length 0 (by omega)
theorem aU0 {L:List (List Int)} {x y:List Int} (hx:x∈L) (hy:y∈L):(x,y)∈L.flatMap λx=>L.map λy=>(x,y):=List.mem_flatMap.2 ⟨x,hx,List.mem_map.2 ⟨y,hy,rfl⟩⟩
theorem bBb {L:List (List Int)} {n:Nat} (hn:n<=1000) (hr:∀ x∈L,x.length=n):∃ K,∀ k,K<=k->∀ x∈L,∀ y∈L,aAp.f k x y=some (aH5 x y):=by
 obtain⟨K,hK⟩:=Ep.all (f:=λk (p:List Int×List Int)=>aAp.f k p.1 p.2) (g:=λp=>aH5 p.1 p.2) (L.flatMap λx=>L.map λy=>(x,y)) (by
  intro p hp
  obtain⟨x,hx,hp⟩:=List.mem_flatMap.1 hp
  obtain⟨y,hy,rfl⟩:=List.mem_map.1 hp
  exact bLd x y ((hr x hx).trans (hr y hy).symm) (by rw[hr x hx];exact hn))
 exact⟨K,λk hk x hx y hy=>hK k hk (x,y) (aU0 hx hy)⟩
def clR (x:List Int):List Int:=x.set 0 (-x.sum)
def clL (n:Nat) (es:List E):List (List Int):=(aM1 n es 0).map clR
theorem aTx {n:Nat} {es:List E} {q:Int} (g:Gr n es q) {d:Int->Int} (h0:∀ v:Int,0<=v->v<n->v≠q->0<=d v):(aLp n es d q).length=n↔Red n es q d:=by
 have hb:=aNl (es:=es) (d:=d) g.hq
 constructor
 ·intro h
  exact hb.1.red g.hes g.hq h h0
 ·intro h
  have hlen:=hb.1.len g.hq
  apply Classical.byContradiction
  intro hc
  obtain⟨v,v0,v1,v2,v3⟩:=Red.bHc g.hes g.hq hb.1 h (by omega)
  have:=hb.2 v v0 v1 v2
  omega
section
variable {n:Nat} {es:List E}
theorem bEt {c:Nat->Nat} {x:List Int} {m:Nat} (h:x∈aGk c m) (v:Int) (h0:0<=v) (h1:v<m):0<=rd x v:=by
 obtain⟨v,rfl⟩:=Int.eq_ofNat_of_zero_le h0
 obtain⟨h2,h3⟩:=aG6 h
 have hlt:v<x.length:=by omega
 rw[aEh hlt]
 exact(h3 v hlt).1
theorem aRe (g:Gr n es 0) {x:List Int} (h:x∈aGk (aK3 es 0) n):x.getD 0 0=0/\0<x.length:=by
 have hq:=g.hq
 obtain⟨h1,h2⟩:=aG6 h
 have hl:0<x.length:=by omega
 have h3:=h2 0 hl
 have h4:aK3 es 0 0=1:=by unfold aK3;rw[if_pos (by omega)]
 rw[h4]at h3
 rw[zdG,zdH hl]
 simp only[Option.getD_some]
 omega
theorem aV4 (g:Gr n es 0) {x:List Int} (h:x∈aGk (aK3 es 0) n):(x.drop 1).sum=x.sum/\0<=x.sum/\x.sum<=72/\Mod x/\x.length=n:=by
 obtain⟨h1,h2⟩:=aG6 h
 obtain⟨h3,h4⟩:=aRe g h
 have h6:=g.n6
 have hb:∀ y∈x,0<=y/\y<=12:=by
  intro y hy
  obtain⟨j,hj,rfl⟩:=List.getElem_of_mem hy
  have:=h2 j hj
  have:=aUz g j
  omega
 have hs:∀ l:List Int,(∀ y∈l,0<=y/\y<=12)->0<=l.sum/\l.sum<=12*(l.length:Int):=by
  intro l
  induction l with
  | nil=>intro _;simp
  | cons a l ih =>
   intro hl
   have h5:=ih λy hy=>hl y (List.mem_cons_of_mem _ hy)
   have h7:=hl a List.mem_cons_self
   rw[List.sum_cons,List.length_cons]
   omega
 have h5:=hs x hb
 refine⟨?_,by omega,by omega,λy hy=>by have:=hb y hy;omega,h1⟩
 cases x with
 | nil=>simp at h4
 | cons a l =>
  have ha:a=0:=h3
  rw[List.drop_one,List.tail_cons,List.sum_cons,ha]
  omega
theorem bBe (x:List Int):(clR x).length=x.length:=by unfold clR;rw[List.length_set]
theorem bBf {x:List Int} (h:x∈clL n es):x.length=n:=by
 obtain⟨y,hy,rfl⟩:=List.mem_map.1 h
 rw[bBe]
 exact(aHw hy).1
theorem aKc {q:Int} {x:List Int} (h:x∈aM1 n es q):x∈aGk (aK3 es q) n:=(List.mem_filter.1 h).1
theorem bAp (g:Gr n es 0):Ep (λk=>if aAd.ok k (aM1 n es 0) then some (sortL (aAd.rows k (aM1 n es 0)),true) else none) (·=(sortL (clL n es),true)):=by
 have h6:=g.n6
 obtain⟨K1,hK1⟩:=Ep.all (f:=λk x=>aC0.f k x) (g:=λx=>x.sum) (aM1 n es 0) λx hx=>aPq x (by have:=(aHw hx).1;omega) (aV4 g (aKc hx)).2.2.2.1
 obtain⟨K2,hK2⟩:=bBb (L:=clL n es) (n:=n) (by omega) λx hx=>bBf hx
 refine⟨_,rfl,max K1 K2,λk hk=>?_⟩
 have e:aAd.rows k (aM1 n es 0)=clL n es:=by
  unfold aAd.rows clL
  refine List.map_congr_left λx hx=>?_
  have hs:=aV4 g (aKc hx)
  unfold aAd.row clR
  rw[hK1 k (by omega) x hx]
  show x.set 0 (wrap64 (-x.sum))=_
  rw[aCv (by omega) (by omega)]
 have hl:=aWu g
 show (if aAd.ok k (aM1 n es 0) then _ else _)=_
 rw[if_pos,e]
 refine⟨λx hx=>⟨by rw[hK1 k (by omega) x hx];rfl,(aRe g (aKc hx)).2,by have:=(aHw hx).1;omega⟩,by omega,?_⟩
 rw[e]
 exact hK2 k (by omega)
end
open Classical in
noncomputable def clO (n:Int) (es:List E):List (List Int)×Bool:=if gOk n es=true/\aJo es (vsL n.toNat 0)<=400 then(sortL (clL n.toNat es),true) else([],false)
theorem bDx (n:Int) (es:List E) (hn:Wf .i64 n):Ep (λk=>aAd.f k n es) (·=clO n es):=by
 simp only[aAd.f]
 refine Ep.aEu (aHk n es) ?_
 unfold clO
 by_cases c:gOk n es=true
 ·have hg:=aEp.1 c
  have hG:=hg.1
  unfold aHb at hG
  obtain⟨m,rfl⟩:=Int.eq_ofNat_of_zero_le (show 0<=n by omega)
  have g:Gr m es 0:=Gr.of hg (by omega)
  simp only[Int.toNat_natCast]
  refine Ep.pos c (Ep.bind (aUg hg) ?_)
  rintro _ rfl
  by_cases h4:aJo es (vsL m 0)<=400
  ·rw[if_pos ⟨c,h4⟩]
   refine Ep.pos h4 (Ep.bind (bAm g) ?_)
   rintro _ rfl
   exact bAp g
  ·rw[if_neg λh=>h4 h.2]
   exact Ep.neg h4 (Ep.now rfl)
 ·rw[if_neg λh=>c h.1]
  exact Ep.neg c (Ep.now rfl)
end Cf
namespace Cf
open P
theorem aJw {n q:Nat} (hq:q<n) {A:List E} (hA:∀ e∈A,EOk (n:Int) e):Span A (vsL n q)↔Joined (n:Int) A:=by
 constructor
 ·intro h
  have key:∀ v:Int,0<=v->v<n->aGp A (q:Int) v:=by
   intro v h0 h1
   by_cases c:v=(q:Int)
   ·rw[c]
    exact aGp.refl
   ·obtain⟨u,hu,huv⟩:=h v ((aF1 hq).2 ⟨⟨h0,h1⟩,c⟩)
    have hr:=aHb.conn hA ⟨h0,h1⟩ huv.symm
    have hu0:u=(q:Int):=Classical.byContradiction λhc=>hu ((aF1 hq).2 ⟨hr,hc⟩)
    rw[hu0]at huv
    exact huv
  exact λv h0 h1=>(key 0 (by omega) (by omega)).symm.trans (key v h0 h1)
 ·intro h v hv
  have:=(aF1 hq).1 hv
  exact⟨(q:Int),λc=>((aF1 hq).1 c).2 rfl,(h (q:Int) (by omega) (by omega)).symm.trans (h v this.1.1 this.1.2)⟩
theorem aUt {n:Nat} {es:List E} (hes:∀ e∈es,EOk (n:Int) e) {q:Nat} (hq:q<n):aJo es (vsL n q)=aJo es (vsL n 0):=by
 have hl:∀ x∈es,x.f0≠x.f1:=λx hx=>by have:=hes x hx;unfold EOk at this;omega
 rw[aOu hl (aKt n q),aOu hl (aKt n 0)]
 unfold bGi
 refine aFi λA hA=>?_
 have hA2:∀ e∈A,EOk (n:Int) e:=λe he=>hes e (hA e he)
 have h1:=aJw hq hA2
 have h2:=aJw (n:=n) (q:=0) (by omega) hA2
 by_cases c:Span A (vsL n q)
 ·rw[aYe c,aYe (h2.2 (h1.1 c)),aJ8 hq,aJ8 (by omega)]
 ·rw[aIn c,aIn λh=>c (h1.2 (h2.1 h))]
theorem aRf {c:Nat->Nat}:∀ {m:Nat} {x:List Int},x.length=m->(∀ (j:Nat) (h:j<x.length),0<=x[j]/\x[j]<(c j:Int))->x∈aGk c m
 | 0,x,h,_=>by
  rw[List.length_eq_zero_iff.1 h]
  exact List.mem_cons_self
 | m+1,x,h,hb=>by
  have hne:x≠[]:=λe=>by rw[e]at h;simp at h
  rw[aGk,List.mem_flatMap]
  refine⟨x.dropLast,aRf (by rw[List.length_dropLast,h];rfl) λj hj=>?_,?_⟩
  ·rw[List.getElem_dropLast]
   rw[List.length_dropLast]at hj
   exact hb j (by omega)
  ·have h1:=hb m (by omega)
   obtain⟨t,ht⟩:=Int.eq_ofNat_of_zero_le h1.1
   unfold aLi
   refine List.mem_map.2 ⟨t,List.mem_range.2 (by omega),?_⟩
   rw[<-ht,show x[m]=x.getLast hne from by rw[List.getLast_eq_getElem];congr 1;omega]
   exact List.dropLast_concat_getLast hne
section
variable {n:Nat} {es:List E} {q:Nat}
def fnR (n q:Nat) (x:List Int) (w:Int):Int:=if w∈vsL n q then rd x w else 0
theorem aRy (g:Gr n es (q:Int)):(aM1 n es (q:Int)).Nodup:=by
 have h:=(aV5 (aK3 es (q:Int)) n).sublist (List.filter_sublist (p:=pB n es (q:Int)))
 refine List.Pairwise.imp ?_ h
 intro a b hab e
 subst e
 have:=aMj hab
 rw[hab]at this
 cases this
theorem aWt (g:Gr n es (q:Int)) {x:List Int} (h:x∈aM1 n es (q:Int)):Red n es (q:Int) (rd x) :=
 (aTx g λv v0 v1 _=>bEt (aKc h) v v0 v1).1 (zdT (List.mem_filter.1 h).2)
theorem bA7 (g:Gr n es (q:Int)) {x:List Int} (hl:x.length=n) (hx:x.getD q 0=0) (h:Red n es (q:Int) (rd x)):x∈aM1 n es (q:Int):=by
 have hq:=g.hq
 refine List.mem_filter.2 ⟨aRf hl λj hj=>?_,zdY ((aTx g h.1).2 h)⟩
 by_cases e:(j:Int)=(q:Int)
 ·obtain rfl:j=q:=by omega
  rw[zdG,zdH hj]at hx
  simp only[Option.getD_some]at hx
  rw[hx]
  unfold aK3
  rw[if_pos rfl]
  omega
 ·have h1:=h.lt g.hes (v:=(j:Int)) (by omega) (by omega) e
  rw[aEh hj]at h1
  unfold aK3
  rw[if_neg e]
  omega
theorem bAy (g:Gr n es (q:Int)) {x y:List Int} (hx:x∈aM1 n es (q:Int)) (hy:y∈aM1 n es (q:Int)) (h:fnR n q x=fnR n q y):x=y:=by
 have hq:=g.hq
 have lx:=(aHw hx).1
 have ly:=(aHw hy).1
 have qx:=aYl g hx
 have qy:=aYl g hy
 rw[Int.toNat_natCast]at qx qy
 refine List.ext_getElem (by omega) λi h1 h2=>?_
 by_cases e:i=q
 ·subst e
  rw[zdG,zdH h1]at qx
  rw[zdG,zdH h2]at qy
  simp only[Option.getD_some]at qx qy
  omega
 ·have h3:=congrFun h (i:Int)
  have hm:(i:Int)∈vsL n q:=(aF1 (by omega)).2 ⟨by omega,by omega⟩
  unfold fnR at h3
  rw[if_pos hm,if_pos hm,aEh h1,aEh h2]at h3
  exact h3
theorem bEf (g:Gr n es (q:Int)) {x:List Int} (h:x∈aM1 n es (q:Int)):Pk es (vsL n q) (fnR n q x):=by
 have hq:=g.hq
 have hqn:q<n:=by omega
 have hr:=aWt g h
 refine⟨λw hw=>if_neg hw,λw hw=>?_,λS hS ⟨y,hy⟩=>?_⟩
 ·have hm:=(aF1 hqn).1 hw
  unfold fnR
  rw[if_pos hw]
  exact hr.1 w hm.1.1 hm.1.2 hm.2
 ·have hSq:S (q:Int)=false:=by
   cases c:S (q:Int) with
   | false=>rfl
   | true=>exact absurd rfl ((aF1 hqn).1 (hS _ c)).2
  have hm:=(aF1 hqn).1 (hS y hy)
  obtain⟨v,v0,v1,v2,v3⟩:=hr.2 S hSq ⟨y,hm.1.1,hm.1.2,hy⟩
  refine⟨v,v2,?_⟩
  unfold fnR
  rw[if_pos (hS v v2)]
  exact v3
theorem bD9 (g:Gr n es (q:Int)) {p:Int->Int} (h:Pk es (vsL n q) p):∃ x∈aM1 n es (q:Int),fnR n q x=p:=by
 have hq:=g.hq
 have hqn:q<n:=by omega
 have hrep:=aG4 n p
 have hlen:(aO5 n p).length=n:=aKb n p
 have hrd:∀ v:Int,0<=v->v<n->rd (aO5 n p) v=p v:=λv h0 h1=>hrep.2 v h0 h1
 have hpq:p (q:Int)=0:=h.1 _ λc=>((aF1 hqn).1 c).2 rfl
 have bKl:Red n es (q:Int) (rd (aO5 n p)):=by
  refine⟨λv v0 v1 v2=>by rw[hrd v v0 v1];exact h.2.1 v ((aF1 hqn).2 ⟨⟨v0,v1⟩,v2⟩),λS hS ⟨y,y0,y1,y2⟩=>?_⟩
  have hyq:y≠(q:Int):=λe=>by rw[e,hS]at y2;cases y2
  obtain⟨w,hw,hlt⟩:=h.2.2 (λv=>S v&&decide (v∈vsL n q)) (λx hx=>by
   rw[Bool.and_eq_true]at hx
   exact zdT hx.2) ⟨y,by rw[y2,zdY ((aF1 hqn).2 ⟨⟨y0,y1⟩,hyq⟩)];rfl⟩
  rw[Bool.and_eq_true]at hw
  have hm:=(aF1 hqn).1 (zdT hw.2)
  refine⟨w,hm.1.1,hm.1.2,hw.1,?_⟩
  rw[hrd w hm.1.1 hm.1.2]
  rwa[aIy g.hes (t:=ind S) λv v0 v1=>by
   show (if(S v&&decide (v∈vsL n q))=true then (1:Int) else 0)=if S v=true then 1 else 0
   by_cases e:v=(q:Int)
   ·rw[e,hS,Bool.false_and]
   ·rw[zdY ((aF1 hqn).2 ⟨⟨v0,v1⟩,e⟩),Bool.and_true]]at hlt
 refine⟨aO5 n p,bA7 g hlen (by rw[<-aTy,hrd _ (by omega) (by omega)];exact hpq) bKl,funext λw=>?_⟩
 unfold fnR
 by_cases c:w∈vsL n q
 ·have hm:=(aF1 hqn).1 c
  rw[if_pos c,hrd w hm.1.1 hm.1.2]
 ·rw[if_neg c,h.1 w c]
theorem aRz (g:Gr n es (q:Int)):((aM1 n es (q:Int)).length:Int)=aJo es (vsL n 0):=by
 have hq:=g.hq
 have hl:∀ x∈es,x.f0≠x.f1:=λx hx=>by have:=g.hes x hx;unfold EOk at this;omega
 have h1:=aWx (es:=es) (vs:=vsL n q) hl (aKt n q)
 rw[aUt g.hes (show q<n by omega)]at h1
 refine Cnt.unique (S:=Pk es (vsL n q)) ?_ h1
 refine⟨(aM1 n es (q:Int)).map (fnR n q),aL9 (λx hx y hy h=>bAy g hx hy h) (aRy g),λp=>⟨λhp=>?_,λhp=>?_⟩,by rw[List.length_map]⟩
 ·obtain⟨x,hx,rfl⟩:=List.mem_map.1 hp
  exact bEf g hx
 ·obtain⟨x,hx,rfl⟩:=bD9 g hp
  exact List.mem_map.2 ⟨x,hx,rfl⟩
end
end Cf
namespace Cf
theorem aOi {a b c:E} (h:leE a b) (k:leE b c):leE a c:=by
 unfold leE at *
 omega
theorem aJx {es:List E} (h:es.Pairwise leE):Sorted es:=λi hi=>by
 rw[List.pairwise_iff_getElem]at h
 exact h i (i+1) (by omega) hi (by omega)
theorem aK1:∀ {es:List E},Sorted es->es.Pairwise leE
 | [],_=>List.Pairwise.nil
 | a::r,h=>by
  have hr:Sorted r:=λi hi=>h (i+1) (by simpa using hi)
  have ih:=aK1 hr
  refine List.Pairwise.cons (λb hb=>?_) ih
  cases r with
  | nil=>cases hb
  | cons c s =>
   have h0:leE a c:=h 0 (by simp)
   rcases List.mem_cons.1 hb with rfl|hb
   ·exact h0
   ·exact aOi h0 (List.rel_of_pairwise_cons ih hb)
def aPd (e:E):List E->List E
 | []=>[e]
 | x::r=>if x.f0>e.f0∨(x.f0=e.f0/\x.f1>e.f1) then e::x::r else x::aPd e r
theorem aKg {e y:E}:∀ {l:List E},y∈aPd e l↔y=e∨y∈l
 | []=>by simp[aPd]
 | x::r=>by
  unfold aPd
  split
  ·simp
  ·rw[List.mem_cons,aKg (l:=r),List.mem_cons]
   constructor
   ·rintro (h|h|h)
    ·exact .inr (.inl h)
    ·exact .inl h
    ·exact .inr (.inr h)
   ·rintro (h|h|h)
    ·exact .inr (.inl h)
    ·exact .inl h
    ·exact .inr (.inr h)
theorem aR3 (e:E):∀ (l:List E),(aPd e l).length=l.length+1
 | []=>rfl
 | x::r=>by
  unfold aPd
  split
  ·simp
  ·simp[aR3 e r]
theorem aUe {e:E}:∀ {l:List E},l.Pairwise leE->(aPd e l).Pairwise leE
 | [],_=>by simp[aPd]
 | x::r,h=>by
  unfold aPd
  have hx:=List.pairwise_cons.1 h
  split
  ·rename_i hc
   refine List.Pairwise.cons (λb hb=>?_) h
   have h1:leE e x:=by unfold leE;omega
   rcases List.mem_cons.1 hb with rfl|hb
   ·exact h1
   ·exact aOi h1 (hx.1 b hb)
  ·rename_i hc
   refine List.Pairwise.cons (λb hb=>?_) (aUe hx.2)
   rcases aKg.1 hb with rfl|hb
   ·unfold leE;omega
   ·exact hx.1 b hb
theorem bAx {n:Int} {es:List E} (h:GOk n es) (hl:es.length≠12) {e:E} (he:EOk n e):GOk n (aPd e es):=by
 obtain⟨⟨h1,h2,h3,h4⟩,h5,h6⟩:=h
 refine⟨⟨h1,h2,by rw[aR3];omega,λx hx=>?_⟩,aJx (aUe (aK1 h5)),λv h0 h1=>(h6 v h0 h1).sub λx hx=>aKg.2 (.inr hx)⟩
 rcases aKg.1 hx with rfl|hx
 ·exact he
 ·exact h4 x hx
def hRow (t:List E) (n a:Nat):List E:=(List.range n).flatMap λb=>if a<b then List.replicate (mult t a b).toNat ⟨a,b⟩ else []
def aHl (n:Nat) (t:List E):List E:=(List.range n).flatMap (hRow t n)
theorem aKi {t:List E} {n a:Nat} {e:E}:e∈hRow t n a↔∃ b,b<n/\a<b/\0<mult t a b/\e=⟨a,b⟩:=by
 unfold hRow
 rw[List.mem_flatMap]
 constructor
 ·rintro⟨b,hb,he⟩
  split at he
  ·rename_i hab
   obtain⟨h1,h2⟩:=List.mem_replicate.1 he
   exact⟨b,List.mem_range.1 hb,hab,by omega,h2⟩
  ·cases he
 ·rintro⟨b,hb,hab,hm,rfl⟩
  refine⟨b,List.mem_range.2 hb,?_⟩
  rw[if_pos hab]
  exact List.mem_replicate.2 ⟨by omega,rfl⟩
theorem aMo {t:List E} {n:Nat} {e:E}:e∈aHl n t↔∃ a b:Nat,a<b/\b<n/\0<mult t a b/\e=⟨a,b⟩:=by
 unfold aHl
 rw[List.mem_flatMap]
 constructor
 ·rintro⟨a,_,h⟩
  obtain⟨b,h1,h2,h3,h4⟩:=aKi.1 h
  exact⟨a,b,h2,h1,h3,h4⟩
 ·rintro⟨a,b,h1,h2,h3,h4⟩
  exact⟨a,List.mem_range.2 (by omega),aKi.2 ⟨b,h2,h1,h3,h4⟩⟩
theorem aUp {t:List E} {n:Nat}:∀ e∈aHl n t,EOk (n:Int) e:=by
 intro e he
 obtain⟨a,b,h1,h2,_,rfl⟩:=aMo.1 he
 unfold EOk
 simp only
 omega
theorem aUo (n:Nat) (t:List E):(aHl n t).Pairwise leE:=by
 unfold aHl
 rw[List.pairwise_flatMap]
 refine⟨λa _=>?_,?_⟩
 ·unfold hRow
  rw[List.pairwise_flatMap]
  refine⟨λb _=>?_,?_⟩
  ·split
   ·refine List.pairwise_replicate.2 (.inr ?_)
    unfold leE
    simp
   ·exact List.Pairwise.nil
  ·refine List.pairwise_lt_range.imp ?_
   intro b c hbc x hx y hy
   split at hx
   ·split at hy
    ·rw[List.eq_of_mem_replicate hx,List.eq_of_mem_replicate hy]
     exact .inr ⟨rfl,by show (b:Int)<=(c:Int);omega⟩
    ·cases hy
   ·cases hx
 ·refine List.pairwise_lt_range.imp ?_
  intro a c hac x hx y hy
  obtain⟨_,_,_,_,rfl⟩:=aKi.1 hx
  obtain⟨_,_,_,_,rfl⟩:=aKi.1 hy
  unfold leE
  simp only
  omega
theorem aId (f:Nat->List E):∀ n:Nat,(((List.range n).flatMap f).length:Int)=aEg n (λi=>((f i).length:Int))
 | 0=>rfl
 | n+1=>by
  rw[List.range_succ,List.flatMap_append,List.length_append]
  simp only[aEg,List.flatMap_cons,List.flatMap_nil,List.append_nil]
  rw[<-aId f n]
  omega
theorem aSi {n:Nat}:∀ {t:List E},(∀ e∈t,EOk (n:Int) e)->(aHl n t).length=t.length:=by
 have key:∀ t:List E,((aHl n t).length:Int)=aEg n (λa=>aEg n (λb=>if a<b then mult t (a:Int) (b:Int) else 0)):=by
  intro t
  unfold aHl
  rw[aId]
  apply aDg
  intro a _
  unfold hRow
  rw[aId]
  apply aDg
  intro b _
  have:=aEw t (a:Int) (b:Int)
  split
  ·rw[List.length_replicate];omega
  ·rfl
 intro t
 induction t with
 | nil =>
  intro _
  have:=key []
  have hz:aEg n (λa=>aEg n (λb=>if a<b then mult [] (a:Int) (b:Int) else 0))=0:=by
   refine(aDg (g:=λ_=>0) λa _=>?_).trans (aEr n)
   refine(aDg (g:=λ_=>0) λb _=>?_).trans (aEr n)
   split<;>rfl
  rw[hz]at this
  simp only[List.length_nil]
  omega
 | cons e r ih =>
  intro h
  have ih:=ih λx hx=>h x (List.mem_cons_of_mem _ hx)
  have he:=h e List.mem_cons_self
  unfold EOk at he
  have k1:=key (e::r)
  have k2:=key r
  have hs:aEg n (λa=>aEg n (λb=>if a<b then mult (e::r) (a:Int) (b:Int) else 0))=1+aEg n (λa=>aEg n (λb=>if a<b then mult r (a:Int) (b:Int) else 0)):=by
   have h1:aEg n (λa=>aEg n (λb=>if a=e.f0.toNat/\b=e.f1.toNat then (1:Int) else 0))=1:=by
    rw[aDg (g:=λa=>if a=e.f0.toNat then (1:Int) else 0) (λa _=>?_),aIq e.f0.toNat (by omega)]
    by_cases ha:a=e.f0.toNat
    ·rw[if_pos ha,aDg (g:=λb=>if b=e.f1.toNat then (1:Int) else 0) (λb _=>by simp[ha]),aIq e.f1.toNat (by omega)]
    ·rw[if_neg ha,aDg (g:=λ_=>(0:Int)) (λb _=>by rw[if_neg (λx=>ha x.1)]),aEr]
   rw[<-h1,<-aFm]
   apply aDg
   intro a _
   rw[<-aFm]
   apply aDg
   intro b _
   have hm:mult (e::r) (a:Int) (b:Int)=aEx (a:Int) (b:Int) e+mult r (a:Int) (b:Int):=aD0 _ _ _
   rw[hm]
   unfold aEx
   by_cases hab:a<b
   ·rw[if_pos hab,if_pos hab]
    by_cases hc:a=e.f0.toNat/\b=e.f1.toNat
    ·rw[if_pos hc,if_pos (.inl ⟨by omega,by omega⟩)]
    ·rw[if_neg hc,if_neg (by omega)]
   ·rw[if_neg hab,if_neg hab,if_neg (by omega)]
    rfl
  rw[List.length_cons]
  omega
structure aM5 (v:Nat) (t:List E):Prop where
 ok:∀ e∈t,EOk (v:Int) e
 len:t.length+1=v
 up:∀ w:Nat,0<w->w<v->∃ a:Nat,a<w/\(⟨(a:Int),(w:Int)⟩:E)∈t
theorem aM5.start:aM5 1 []:=⟨λe he=>(by cases he),rfl,λw h0 h1=>by omega⟩
theorem aM5.next {v:Nat} {t:List E} (h:aM5 v t) {a:Int} (h0:0<=a) (h1:a<v):aM5 (v+1) (t++[⟨a,v⟩]) where
 ok:=λe he=>by
  rcases List.mem_append.1 he with he|he
  ·have:=h.ok e he
   unfold EOk at *
   omega
  ·rw[List.mem_singleton.1 he]
   unfold EOk
   simp only
   omega
 len:=by rw[List.length_append];simp;exact h.len
 up:=λw w0 w1=>by
  by_cases c:w<v
  ·obtain⟨b,hb,hm⟩:=h.up w w0 c
   exact⟨b,hb,List.mem_append_left _ hm⟩
  ·obtain rfl:w=v:=by omega
   refine⟨a.toNat,by omega,List.mem_append_right _ ?_⟩
   have e:((a.toNat:Nat):Int)=a:=by omega
   rw[e]
   exact List.mem_singleton.2 rfl
theorem aM5.gOk {n:Nat} {t:List E} (h:aM5 n t) (hn:n<=6):GOk (n:Int) (aHl n t):=by
 have hl:=aSi h.ok
 have hlen:=h.len
 refine⟨⟨by omega,by omega,by omega,aUp⟩,aJx (aUo n t),?_⟩
 have key:∀ w:Nat,w<n->aGp (aHl n t) 0 (w:Int):=by
  intro w
  induction w using Nat.strongRecOn with
  | _ w ih =>
   intro hw
   by_cases w0:w=0
   ·subst w0;exact .refl
   ·obtain⟨a,ha,hm⟩:=h.up w (by omega) hw
    have hc:=ih a ha (by omega)
    have hmem:(⟨(a:Int),(w:Int)⟩:E)∈aHl n t:=by
     refine aMo.2 ⟨a,w,ha,hw,?_,rfl⟩
     have h1:=aIr (es:=t) (f:=aEx (a:Int) (w:Int)) (λe _=>by unfold aEx;split<;>omega) hm
     have h2:aEx (a:Int) (w:Int) ⟨(a:Int),(w:Int)⟩=1:=by unfold aEx;simp
     unfold mult
     omega
    exact hc.tail ⟨_,hmem,.inl ⟨rfl,rfl⟩⟩
 intro v h0 h1
 obtain⟨w,rfl⟩:=Int.eq_ofNat_of_zero_le h0
 exact key w (by omega)
end Cf
end Go.Proofs.Ytfdaopkbibbhbaa
