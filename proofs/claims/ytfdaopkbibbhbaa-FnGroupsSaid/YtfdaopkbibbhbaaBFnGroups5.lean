/- A part of the proof of aE2. -/
import Derived.Test.YtfdaopkbibbhbaaBFnGroups4
import Derived.Test.YtfdaopkbibbhbaaBFnGroups2
import Derived.Test.YtfdaopkbibbhbaaBFnGroups0
import Derived.Test.YtfdaopkbibbhbaaBFnGroups1
import Derived.Test.YtfdaopkbibbhbaaBFnGroups3
import Derived.Deep.Slices
import Derived.Lib.SmallJoins
import Derived.ChangeSame
import Derived.Test.YtfdaopkbibbhbaaRows
import Derived.JoinedOf
import Derived.KernelRfl
set_option linter.unusedVariables false
set_option linter.unusedSimpArgs false
namespace Go.Proofs.Ytfdaopkbibbhbaa
namespace Cf
open Go.RowKit Go.Proofs.YtfdaopkbibbhbaaW.PrintWords Go.Proofs.YtfdaopkbibbhbaaW.PrintMore P
def Cur (b:List Int) (i:Int):Prop:=0<=i/\i<=b.length
theorem aRj (y:Int):0<=Go.bits .and .i64 y 255/\Go.bits .and .i64 y 255<=255:=by
 have h:((BitVec.ofInt 64 y) &&& (BitVec.ofInt 64 255)).toNat<=255:=by
  rw[BitVec.toNat_and]
  exact Nat.le_trans Nat.and_le_right (by decide)
 have e:Go.bits .and .i64 y 255=(((BitVec.ofInt 64 y) &&& (BitVec.ofInt 64 255)).toNat:Int):=by
  show Go.IntKind.wrap .i64 _=_
  have e0:∀ m:Nat,m<=255->Go.IntKind.wrap .i64 (m:Int)=m:=by
   intro m hm
   exact(aIo m (by omega) (by omega))
  exact e0 _ h
 rw[e]
 omega
theorem aV2 {b:List Int} (hb:b.length<=1048576) {i:Int} (h:Int) (hc:Cur b i):∃ x i' h',aCn.f b i h=some (x,i',h')/\0<=x/\x<=255/\Cur b i':=by
 unfold Cur at *
 unfold aCn.f
 split
 ·rw[if_pos hc.1]
  exact⟨_,_,_,rfl,(aRj _).1,(aRj _).2,by rw[aCv (by omega) (by omega)];omega⟩
 ·exact⟨_,_,_,rfl,(aRj _).1,(aRj _).2,hc⟩
theorem aH2 {b:List Int} (hb:b.length<=1048576) {i:Int} (h:Int) (hc:Cur b i) {a:Int} (h0:1<=a) (h1:a<=256):∃ x i' h',aC4.f b i h a=some (x,i',h')/\0<=x/\x<a/\Cur b i':=by
 obtain⟨x,i',h',e,x0,x1,hc'⟩:=aV2 hb h hc
 refine⟨Int.tmod x a,i',h',?_,Int.tmod_nonneg _ x0,Int.tmod_lt_of_pos _ (by omega),hc'⟩
 unfold aC4.f
 rw[if_neg (by omega),if_pos h1,e]
 show (if a=0 then none else some _)=_
 rw[if_neg (by omega)]
theorem bEm (b:List Int) (hb:b.length<=1048576):∀ (d i:Nat) (h:Int),i+d=b.length->Ep (λk=>aBn.l0 k b h (i:Int)) (λr=>r.1=b/\Cur b r.2.1):=by
 intro d
 induction d with
 | zero =>
  intro i h hi
  refine Ep.up ?_
  simp only[aBn.l0]
  exact Ep.neg (by omega) (Ep.now ⟨rfl,by unfold Cur;simp⟩)
 | succ d ih =>
  intro i h hi
  refine Ep.up ?_
  simp only[aBn.l0]
  refine Ep.pos (by omega) (Ep.ite (λ_=>Ep.pos (by omega) ?_) (λ_=>Ep.now ⟨rfl,by unfold Cur;simp⟩))
  rw[wrap_succ (by omega)]
  exact ih (i+1) _ (by omega)
theorem aUw (b:List Int) (hb:b.length<=1048576):Ep (λk=>aBn.f k b) (λr=>r.1=b/\Cur b r.2.1):=by
 simp only[aBn.f]
 exact bEm b hb b.length 0 _ (by omega)
theorem bB8 (b:List Int) (hb:b.length<=1048576) (n:Nat) (hn:n<=1000):∀ (d j:Nat) (i h:Int),j+d=n->Cur b i->Ep (λk=>aBx.l0 k (n:Int) (j:Int) b i h) (λr=>r.1=b/\Cur b r.2.1):=by
 intro d
 induction d with
 | zero =>
  intro j i h hj hc
  refine Ep.up ?_
  simp only[aBx.l0]
  exact Ep.neg (by omega) (Ep.now ⟨rfl,hc⟩)
 | succ d ih =>
  intro j i h hj hc
  obtain⟨x,i',h',e,_,_,hc'⟩:=aV2 hb h hc
  refine Ep.up ?_
  simp only[aBx.l0]
  refine Ep.pos (by omega) (Ep.aEu e ?_)
  rw[wrap_succ (by omega)]
  exact ih (j+1) i' h' (by omega) hc'
theorem aXs (b:List Int) (hb:b.length<=1048576) (n:Nat) (hn:n<=1000):Ep (λk=>aBx.f k b (n:Int)) (λr=>r.1=b/\Cur b r.2.1):=by
 simp only[aBx.f]
 refine Ep.bind (aUw b hb) ?_
 rintro⟨b',i,h⟩ ⟨rfl,hc⟩
 exact bB8 _ hb n hn n 0 i h (by omega) hc
theorem aVd (es:List E) (hel:es.length<=12) (n:Int) (e:E):∀ (d i:Nat) (acc:List E),i+d=es.length->acc.length<=i+1->Ep (λk=>aAl.l0 k true es (es.length:Int) (i:Int) e.f0 e.f1 n acc) (·=(n,acc++es.drop i,true)):=by
 intro d
 induction d with
 | zero =>
  intro i acc hi ha
  refine Ep.up ?_
  simp only[aAl.l0]
  refine Ep.neg (by omega) (Ep.pos trivial (Ep.now ?_))
  rw[List.drop_of_length_le (by omega),List.append_nil]
 | succ d ih =>
  intro i acc hi ha
  have hlt:i<es.length:=by omega
  refine Ep.up ?_
  simp only[aAl.l0]
  refine Ep.pos (by omega) (Ep.pos (by omega) (Ep.pos (by omega) (Ep.pos trivial (Ep.pos (by omega) ?_))))
  rw[aF4 hlt,wrap_succ (by omega)]
  refine(ih (i+1) _ (by omega) (by simp;omega)).mono ?_
  rintro _ rfl
  rw[List.drop_eq_getElem_cons hlt,List.append_assoc]
  rfl
theorem aUf (e x:E) (r:List E):aPd e (x::r)=if x.f0>e.f0∨(x.f0=e.f0/\x.f1>e.f1) then e::x::r else x::aPd e r:=rfl
theorem bBp (es:List E) (hel:es.length<=12) (n:Int) (e:E):∀ (d i:Nat) (acc:List E),i+d=es.length->acc.length<=i->Ep (λk=>aAl.l0 k false es (es.length:Int) (i:Int) e.f0 e.f1 n acc) (·=(n,acc++aPd e (es.drop i),true)):=by
 intro d
 induction d with
 | zero =>
  intro i acc hi ha
  refine Ep.up ?_
  simp only[aAl.l0]
  refine Ep.neg (by omega) (Ep.neg (by simp) (Ep.pos (by omega) (Ep.now ?_)))
  rw[List.drop_of_length_le (by omega)]
  rfl
 | succ d ih =>
  intro i acc hi ha
  have hlt:i<es.length:=by omega
  refine Ep.up ?_
  simp only[aAl.l0]
  refine Ep.pos (by omega) (Ep.pos (by omega) (Ep.pos (by omega) (Ep.neg (by simp) ?_)))
  rw[aF4 hlt,wrap_succ (by omega),List.drop_eq_getElem_cons hlt]
  have put:∀ (hx:es[i].f0>e.f0∨(es[i].f0=e.f0/\es[i].f1>e.f1)),Ep (λk=>(some (acc++[(⟨e.f0,e.f1⟩:E)])).bind λy=>if y.length<8796093022208 then aAl.l0 k true es (es.length:Int) ((i+1:Nat):Int) e.f0 e.f1 n (y++[(⟨es[i].f0,es[i].f1⟩:E)]) else none) (·=(n,acc++aPd e (es[i]::es.drop (i+1)),true)):=by
   intro hx
   refine Ep.aEu rfl (Ep.pos (by simp;omega) ?_)
   refine(aVd es hel n e d (i+1) _ (by omega) (by simp;omega)).mono ?_
   rintro _ rfl
   unfold aPd
   rw[if_pos hx]
   simp only[List.append_assoc,List.cons_append,List.nil_append]
  have go:∀ (hx:¬ (es[i].f0>e.f0∨(es[i].f0=e.f0/\es[i].f1>e.f1))),Ep (λk=>aAl.l0 k false es (es.length:Int) ((i+1:Nat):Int) e.f0 e.f1 n (acc++[(⟨es[i].f0,es[i].f1⟩:E)])) (·=(n,acc++aPd e (es[i]::es.drop (i+1)),true)):=by
   intro hx
   refine(ih (i+1) _ (by omega) (by simp;omega)).mono ?_
   rintro _ rfl
   rw[List.append_assoc,aUf,if_neg hx]
   rfl
  refine Ep.ite (λh1=>Ep.pos (by omega) (put (.inl h1))) (λh1=>Ep.ite (λh2=>Ep.ite (λh3=>Ep.pos (by omega) (put (.inr ⟨h2,h3⟩))) (λh3=>Ep.pos (by omega) (go (by omega)))) (λh2=>Ep.pos (by omega) (go (by omega))))
theorem bBo {n:Int} {es:List E} (hg:GOk n es) (a b:Int):Ep (λk=>aAl.f k n es a b) (λr=>r.2.2=true->r.1=n/\GOk n r.2.1):=by
 have hG:=hg.1
 unfold aHb at hG
 have hw:wrap64 (n-1)=n-1:=aCv (by omega) (by omega)
 have no:Ep (λk=>aAl.j0 k a b true n es) (λr=>r.2.2=true->r.1=n/\GOk n r.2.1):=by
  refine Ep.up ?_
  simp only[aAl.j0]
  exact Ep.pos trivial (Ep.now (λh=>by cases h))
 simp only[aAl.f]
 refine Ep.bind (aTl n es) ?_
 rintro _ rfl
 rw[aEp.2 hg]
 refine Ep.pos rfl (Ep.aEu (aJ0 _ _ _) (Ep.ite (λh1=>?_) (λ_=>no)))
 refine Ep.aEu (aJ0 _ _ _) (Ep.ite (λh2=>?_) (λ_=>no))
 rw[decide_eq_true_eq,hw]at h1 h2
 refine Ep.ite (λ_=>no) (λh3=>?_)
 refine Ep.up ?_
 simp only[aAl.j0]
 refine Ep.ite (λ_=>Ep.now (λh=>by cases h)) (λh4=>?_)
 have h5:es.length≠12:=by
  intro h
  rw[h]at h4
  exact h4 rfl
 refine(bBp es hG.2.2.1 n ⟨mn a b,mx a b⟩ es.length 0 [] (by omega) (by simp)).mono ?_
 rintro _ rfl _
 refine⟨rfl,bAx hg h5 ?_⟩
 unfold EOk mn mx
 dsimp only
 split<;>split<;>omega
def hTo (t:List E) (n a b:Nat):List E:=(List.range a).flatMap (hRow t n)++(List.range b).flatMap λc=>if a<c then List.replicate (mult t a c).toNat ⟨a,c⟩ else []
theorem aUn (t:List E) (n a:Nat):hTo t n a (a+1)=(List.range a).flatMap (hRow t n):=by
 have h:((List.range (a+1)).flatMap λc=>if a<c then List.replicate (mult t a c).toNat (⟨a,c⟩:E) else [])=[]:=List.flatMap_eq_nil_iff.2 λc hc=>by rw[if_neg (by have:=List.mem_range.1 hc;omega)]
 unfold hTo
 rw[h,List.append_nil]
theorem bAs (t:List E) (n a:Nat):hTo t n a n=(List.range (a+1)).flatMap (hRow t n):=by
 unfold hTo
 rw[List.range_succ,List.flatMap_append]
 simp[hRow]
theorem aXi (t:List E) (n a b:Nat) (h:a<b):hTo t n a (b+1)=hTo t n a b++List.replicate (mult t a b).toNat ⟨a,b⟩:=by
 unfold hTo
 rw[List.range_succ (n:=b),List.flatMap_append,<-List.append_assoc]
 simp[h]
theorem aIc (C:Nat) (f:Nat->List E) (h:∀ i,(f i).length<=C):∀ n:Nat,((List.range n).flatMap f).length<=C*n:=by
 intro n
 induction n with
 | zero=>simp
 | succ n ih =>
  rw[List.range_succ,List.flatMap_append,List.length_append]
  have:=h n
  simp only[List.flatMap_cons,List.flatMap_nil,List.append_nil]
  rw[Nat.mul_succ]
  omega
theorem bAr (t:List E) (ht:t.length<=12) (n a b:Nat) (hn:n<=6) (ha:a<=6) (hb:b<=6):(hTo t n a b).length<=1000:=by
 have hr:∀ a c:Nat,(if a<c then List.replicate (mult t a c).toNat (⟨a,c⟩:E) else []).length<=12:=by
  intro a c
  have:=aJk t a c
  split
  ·rw[List.length_replicate];omega
  ·simp
 have h1:∀ a,(hRow t n a).length<=72:=λa=>Nat.le_trans (aIc 12 _ (hr a) n) (by omega)
 have h2:=aIc 72 (hRow t n) h1 a
 have h3:=aIc 12 _ (hr a) b
 unfold hTo
 rw[List.length_append]
 omega
def aP7 (b:List Int) (most:Int) (r:Int×List E×Int×Int):Prop:=∃ n:Nat,r.1=n/\2<=n/\(n:Int)<=most/\GOk (n:Int) r.2.1/\Cur b r.2.2.1
theorem bB2 {b:List Int} (hb:b.length<=1048576) {n:Nat} (h2:2<=n) (h6:n<=6) {most:Int} (hm:(n:Int)<=most):∀ (c:Nat) (es:List E) (i h:Int),c<=10->GOk (n:Int) es->Cur b i->Ep (λk=>aA8.l4 k (n:Int) (c:Int) b i h (n:Int) es) (aP7 b most):=by
 intro c
 induction c with
 | zero =>
  intro es i h _ hg hc
  refine Ep.up ?_
  simp only[aA8.l4]
  exact Ep.neg (by omega) (Ep.now ⟨n,rfl,h2,hm,hg,hc⟩)
 | succ c ih =>
  intro es i h bMl hg hc
  refine Ep.up ?_
  simp only[aA8.l4]
  refine Ep.pos (by omega) ?_
  obtain⟨x,i1,h1,e1,x0,x1,hc1⟩:=aH2 hb h hc (a:=(n:Int)) (by omega) (by omega)
  refine Ep.aEu e1 ?_
  rw[show wrap64 ((n:Int)-1)=n-1 from aCv (by omega) (by omega)]
  obtain⟨y,i2,h2',e2,y0,y1,hc2⟩:=aH2 hb h1 hc1 (a:=(n:Int)-1) (by omega) (by omega)
  refine Ep.aEu e2 (Ep.neg (by omega) ?_)
  rw[show wrap64 (((c+1:Nat):Int)-1)=c from by rw[aCv (by omega) (by omega)];omega]
  refine Ep.bind (bBo hg _ _) ?_
  rintro⟨n',es',ok⟩ hr
  refine Ep.ite (λh3=>?_) (λ_=>ih es i2 h2' (by omega) hg hc2)
  obtain⟨h4,h5⟩:=hr h3
  dsimp only at h4 h5
  subst h4
  exact ih es' i2 h2' (by omega) h5 hc2
theorem bB3 {b:List Int} {n a c:Int} {t:List E} {i h:Int} {Q:Int×List E×Int×Int->Prop}:∀ (m:Nat) (acc:List E),m<=20->acc.length+m<=2000->Ep (λk=>aA8.l2 k n a (wrap64 (c+1)) b i h n t n (acc++List.replicate m ⟨a,c⟩)) Q ->
  Ep (λk=>aA8.l3 k n a c (m:Int) b i h n t n acc) Q:=by
 intro m
 induction m with
 | zero =>
  intro acc _ hl hk
  refine Ep.up ?_
  simp only[aA8.l3]
  refine Ep.neg (by omega) ?_
  simpa using hk
 | succ m ih =>
  intro acc hm hl hk
  refine Ep.up ?_
  simp only[aA8.l3]
  refine Ep.pos (by omega) (Ep.pos (by omega) ?_)
  rw[show wrap64 (((m+1:Nat):Int)-1)=m from by rw[aCv (by omega) (by omega)];omega]
  refine ih _ (by omega) (by simp;omega) ?_
  rw[List.append_assoc,show [(⟨a,c⟩:E)]++List.replicate m ⟨a,c⟩=List.replicate (m+1) ⟨a,c⟩ from rfl]
  exact hk
theorem bB4 {b:List Int} {n:Nat} (h6:n<=6) {t:List E} (ht:aM5 n t) {i h:Int} {a:Nat} (ha:a<n) {Q:Int×List E×Int×Int->Prop}
  (hk:Ep (λk=>aA8.l1 k (n:Int) ((a+1:Nat):Int) b i h (n:Int) t (n:Int) ((List.range (a+1)).flatMap (hRow t n))) Q):∀ (d c:Nat),c+d=n->a<c ->
  Ep (λk=>aA8.l2 k (n:Int) (a:Int) (c:Int) b i h (n:Int) t (n:Int) (hTo t n a c)) Q:=by
 have hl:=ht.len
 intro d
 induction d with
 | zero =>
  intro c hc hac
  refine Ep.up ?_
  simp only[aA8.l2]
  obtain rfl:c=n:=by omega
  refine Ep.neg (by omega) ?_
  rw[wrap_succ (by omega),bAs]
  exact hk
 | succ d ih =>
  intro c hc hac
  refine Ep.up ?_
  simp only[aA8.l2]
  refine Ep.pos (by omega) (Ep.bind (aWh (n:Int) t ht.ok (by omega) (a:Int) (c:Int) (by omega) (by omega)) ?_)
  rintro _ rfl
  have hm0:=aEw t (a:Int) (c:Int)
  have hm1:=aJk t (a:Int) (c:Int)
  have hlen:=bAr t (by omega) n a c h6 (by omega) (by omega)
  obtain⟨m,hm⟩:=Int.eq_ofNat_of_zero_le hm0
  rw[hm]
  refine bB3 m _ (by omega) (by omega) ?_
  rw[wrap_succ (by omega)]
  have:=ih (c+1) (by omega) (by omega)
  rw[aXi t n a c hac,hm]at this
  exact this
theorem bB5 {b:List Int} (hb:b.length<=1048576) {n:Nat} (h2:2<=n) (h6:n<=6) {most:Int} (hm:(n:Int)<=most) {t:List E} (ht:aM5 n t) {i h:Int} (hc:Cur b i):∀ (d a:Nat),a+d=n ->
  Ep (λk=>aA8.l1 k (n:Int) (a:Int) b i h (n:Int) t (n:Int) ((List.range a).flatMap (hRow t n))) (aP7 b most):=by
 intro d
 induction d with
 | zero =>
  intro a ha
  refine Ep.up ?_
  simp only[aA8.l1]
  obtain rfl:a=n:=by omega
  refine Ep.neg (by omega) ?_
  obtain⟨x,i1,h1,e1,x0,x1,hc1⟩:=aH2 hb h hc (a:=5) (by omega) (by omega)
  refine Ep.aEu e1 ?_
  obtain⟨c,rfl⟩:=Int.eq_ofNat_of_zero_le x0
  exact bB2 hb h2 h6 hm c _ i1 h1 (by omega) (ht.gOk h6) hc1
 | succ d ih =>
  intro a ha
  refine Ep.up ?_
  simp only[aA8.l1]
  refine Ep.pos (by omega) ?_
  rw[wrap_succ (by omega),<-aUn]
  exact bB4 h6 ht (by omega) (ih (a+1) (by omega)) (n-(a+1)) (a+1) (by omega) (by omega)
theorem bB6 {b:List Int} (hb:b.length<=1048576) {n:Nat} (h2:2<=n) (h6:n<=6) {most:Int} (hm:(n:Int)<=most):∀ (d v:Nat) (t:List E) (i h:Int),v+d=n->1<=v->aM5 v t->Cur b i ->
  Ep (λk=>aA8.l0 k (n:Int) (v:Int) b i h (v:Int) t) (aP7 b most):=by
 intro d
 induction d with
 | zero =>
  intro v t i h hv h1 ht hc
  refine Ep.up ?_
  simp only[aA8.l0]
  obtain rfl:v=n:=by omega
  refine Ep.neg (by omega) ?_
  exact bB5 hb h2 h6 hm ht hc v 0 (by omega)
 | succ d ih =>
  intro v t i h hv h1 ht hc
  have hl:=ht.len
  refine Ep.up ?_
  simp only[aA8.l0]
  obtain⟨x,i1,h1',e1,x0,x1,hc1⟩:=aH2 hb h hc (a:=(v:Int)) (by omega) (by omega)
  refine Ep.pos (by omega) (Ep.aEu e1 (Ep.pos (by omega) ?_))
  rw[wrap_succ (by omega)]
  exact ih (v+1) _ i1 h1' (by omega) (by omega) (ht.next x0 x1) hc1
theorem bB1 {b:List Int} (hb:b.length<=1048576) {i:Int} (h:Int) (hc:Cur b i) {most:Int} (h3:2<=most) (h5:most<=6):Ep (λk=>aA8.f k b i h most) (aP7 b most):=by
 simp only[aA8.f]
 rw[aCv (x:=most-1) (by omega) (by omega)]
 obtain⟨x,i1,h1,e1,x0,x1,hc1⟩:=aH2 hb h hc (a:=most-1) (by omega) (by omega)
 refine Ep.aEu e1 ?_
 dsimp only
 obtain⟨c,rfl⟩:=Int.eq_ofNat_of_zero_le x0
 rw[show wrap64 (2+(c:Int))=((2+c:Nat):Int) from by rw[aCv (by omega) (by omega)];omega]
 exact bB6 hb (by omega) (by omega) (by omega) (1+c) 1 [] i1 h1 (by omega) (by omega) .start hc1
theorem aU6 (b:List Int) (hb:b.length<=1048576):Ep (λk=>aD4.f k b) (λr=>∃ n:Nat,r.1=n/\2<=n/\n<=5/\GOk (n:Int) r.2):=by
 simp only[aD4.f]
 refine Ep.bind (aUw b hb) ?_
 rintro⟨b',i,h⟩ ⟨rfl,hc⟩
 refine Ep.bind (P:=aP7 b' 5) ?_ ?_
 ·simp only[aDk.f]
  refine Ep.bind (bB1 hb h hc (by omega) (by omega)) ?_
  intro a ha
  exact Ep.now ha
 ·rintro⟨n',es,_,_⟩ ⟨n,hn,h2,h5,hg,_⟩
  exact Ep.now ⟨n,hn,h2,by omega,hg⟩
structure Pl (n:Nat) (q:Int) (p:List Int):Prop where
 len:p.length=n
 bd:∀ y∈p,0<=y/\y<=6
 hq:rd p q=0
end Cf
namespace Cf
open Go.RowKit Go.Proofs.YtfdaopkbibbhbaaW.PrintWords P
theorem bAb {b:List Int} (hb:b.length<=1048576) {i:Int} (h:Int) (hc:Cur b i) (l:List Int) (h0:1<=l.length) (h1:l.length<=256):∃ x i' h',aEn.f b i h l=some (x,i',h')/\x∈l/\Cur b i':=by
 obtain⟨z,i1,h2,e1,z0,z1,hc1⟩:=aH2 hb h hc (a:=(l.length:Int)) (by omega) (by omega)
 refine⟨rd l z,i1,h2,?_,?_,hc1⟩
 ·unfold aEn.f
  rw[e1,Option.bind_some,if_pos (show (0:Int)<=z from z0),if_pos (show z<(l.length:Int) from z1)]
 ·unfold rd
  rw[zdG,zdH (by omega)]
  exact List.getElem_mem _
theorem bEi {b:List Int} (hb:b.length<=1048576) {n:Nat} (h6:n<=6) (es:List E):∀ (d v:Nat) (x:List Int) (i h:Int),v+d=n->x.length=v->(∀ y∈x,-2<=y/\y<=6)->Cur b i ->
  Ep (λk=>aBs.l0 k x (v:Int) b i h (n:Int) es) (λr=>r.1.length=n/\∀ y∈r.1,-2<=y/\y<=6):=by
 intro d
 induction d with
 | zero =>
  intro v x i h hv hx hy hc
  refine Ep.up ?_
  simp only[aBs.l0]
  exact Ep.neg (by omega) (Ep.now ⟨by show x.length=n;omega,hy⟩)
 | succ d ih =>
  intro v x i h hv hx hy hc
  obtain⟨z,i1,h1,e1,z0,z1,hc1⟩:=aH2 hb h hc (a:=7) (by omega) (by omega)
  obtain⟨y,i2,h2,e2,hy2,hc2⟩:=bAb hb h1 hc1 [0,1,2,-1,3,-2,z] (by simp) (by simp)
  refine Ep.up ?_
  simp only[aBs.l0]
  refine Ep.pos (by omega) (Ep.aEu e1 (Ep.aEu e2 (Ep.pos (by omega) ?_)))
  rw[wrap_succ (by omega)]
  refine ih (v+1) _ i2 h2 (by omega) (by simp;omega) ?_ hc2
  intro w hw
  rcases List.mem_append.1 hw with hw|hw
  ·exact hy w hw
  ·rw[List.mem_singleton.1 hw]
   dsimp only
   simp only[List.mem_cons,List.not_mem_nil,or_false]at hy2
   omega
theorem aYj {B:Int}:∀ l:List Int,(∀ y∈l,y<=B)->l.sum<=l.length*B
 | [],_=>by simp
 | x::l,h=>by
  have h1:=h x List.mem_cons_self
  have h2:=aYj l λy hy=>h y (List.mem_cons_of_mem _ hy)
  rw[List.sum_cons,List.length_cons,Int.natCast_add,Int.add_mul]
  simp only[Int.natCast_one,Int.one_mul]
  omega
theorem bD7 {B:Int} (l:List Int) (h:∀ y∈l,B<=y):l.length*B<=l.sum:=by
 induction l with
 | nil=>simp
 | cons x l ih =>
  have h1:=h x List.mem_cons_self
  have h2:=ih λy hy=>h y (List.mem_cons_of_mem _ hy)
  rw[List.sum_cons,List.length_cons,Int.natCast_add,Int.add_mul]
  simp only[Int.natCast_one,Int.one_mul]
  omega
theorem aQz (b:List Int) (hb:b.length<=1048576) (m:Nat) (hm:m<=1000) {n:Nat} (h2:2<=n) (h5:n<=5) {es:List E} (hg:GOk (n:Int) es):Ep (λk=>aBy.f k b (m:Int) (n:Int) es) (λa=>zOk (n:Int) es a=true/\a.length=n):=by
 simp only[aBy.f,aCx.f,aBs.f]
 refine Ep.bind (P:=λa=>a.length=n/\∀ y∈a,-2<=y/\y<=6) (Ep.bind (aXs b hb m hm) ?_) ?_
 ·rintro⟨b',i,h⟩ ⟨rfl,hc⟩
  refine Ep.bind (bEi hb (by omega) es n 0 [] i h (by omega) rfl (by simp) hc) ?_
  rintro⟨x,i2,h2⟩ ⟨hx1,hx2⟩
  exact Ep.now ⟨hx1,hx2⟩
 ·rintro a ⟨hl,hy⟩
  refine Ep.pos (by omega) (Ep.bind (bA0 a (by omega) (λy h=>by have:=hy y h;omega)) ?_)
  rintro _ rfl
  have hs1:=aYj a λy h=>(hy y h).2
  have hs2:=bD7 a λy h=>(hy y h).1
  refine Ep.now ?_
  obtain⟨x,l,rfl⟩:∃ x l,a=x::l:=by
   cases a with
   | nil=>simp at hl;omega
   | cons x l=>exact⟨x,l,rfl⟩
  have hx:=hy x List.mem_cons_self
  have e:(x::l).set (0:Int).toNat (wrap64 (rd (x::l) 0-(x::l).sum))=(x-(x::l).sum)::l:=by
   have e1:rd (x::l) 0=x:=rfl
   rw[e1,aCv (by omega) (by omega)]
   rfl
  rw[e]
  refine⟨?_,by simpa using hl⟩
  unfold zOk
  rw[Bool.and_eq_true]
  refine⟨aJp.2 ⟨hg,by simp at hl;simp;omega,λy h=>?_⟩,?_⟩
  ·rcases List.mem_cons.1 h with rfl|h
   ·omega
   ·have:=hy y (List.mem_cons_of_mem _ h)
    omega
  ·rw[beq_iff_eq,List.sum_cons,List.sum_cons]
   omega
theorem bA4 (a b:List Int) (hl:a.length=b.length) (hb:a.length<=1048576):∀ (d i:Nat),i+d=a.length->Ep (λk=>aC2.l0 k b a (a.length:Int) (i:Int)) (·=decide (a.drop i=b.drop i)):=by
 intro d
 induction d with
 | zero =>
  intro i hi
  refine Ep.up ?_
  simp only[aC2.l0]
  refine Ep.neg (by omega) (Ep.now ?_)
  rw[List.drop_of_length_le (by omega),List.drop_of_length_le (by omega)]
  rfl
 | succ d ih =>
  intro i hi
  have h1:i<a.length:=by omega
  have h2:i<b.length:=by omega
  refine Ep.up ?_
  simp only[aC2.l0]
  refine Ep.pos (by omega) (Ep.pos (by omega) (Ep.pos (by omega) (Ep.pos (by omega) ?_)))
  rw[aEh h1,aEh h2,wrap_succ (by omega),List.drop_eq_getElem_cons h1,List.drop_eq_getElem_cons h2]
  refine Ep.ite (λh=>(ih (i+1) (by omega)).mono ?_) (λh=>Ep.now ?_)
  ·rintro _ rfl
   rw[h]
   simp only[List.cons.injEq,true_and]
  ·rw[eq_comm,decide_eq_false_iff_not]
   intro e
   exact h (List.cons.inj e).1
theorem bA3 (a b:List Int) (hb:a.length<=1048576):Ep (λk=>aC2.f k a b) (·=decide (a=b)):=by
 simp only[aC2.f]
 refine Ep.ite (λh=>?_) (λh=>Ep.now ?_)
 ·simpa using bA4 a b (by omega) hb a.length 0 (by omega)
 ·rw[eq_comm,decide_eq_false_iff_not]
  intro e
  exact h (by rw[e])
theorem aN5 {a b:List Int} (h:a=b) (hb:a.length<=1048576):Ep (λk=>aC2.f k a b) (·=true):=(bA3 a b hb).mono (by rintro _ rfl;simpa using h)
theorem aXa {n:Nat} {es:List E} (hg:GOk (n:Int) es) (hn:Wf .i64 (n:Int)) {b:List Int} (hb:zOk (n:Int) es b=true):Ep (λk=>aBf.f k (n:Int) es b) (·=((aF3 n es 0 b).1,true)):=by
 obtain⟨lb,_,_⟩:=aGv hb
 have hG:=hg.1
 unfold aHb at hG
 have hd:dOk (n:Int) es b=true:=by
  unfold zOk at hb
  rw[Bool.and_eq_true]at hb
  exact hb.1
 have e:bA5 (n:Int) es b 0=((aF3 n es 0 b).1,true):=by
  unfold bA5
  have:(0:Int)<=0/\(0:Int)<n:=by omega
  rw[hd,if_pos (by simpa using this.2)]
  rfl
 simp only[aBf.f]
 refine Ep.bind (P:=(·=((aF3 n es 0 b).1,true))) ((aR4 (n:Int) es b 0 hn (by omega)).mono λr hr=>hr.trans e) ?_
 rintro _ rfl
 exact Ep.now rfl
theorem aXd (l:List Int) (hl:l.length<=1048576) (hm:Mod l):Ep (λk=>aCl.f k l) (·=l.sum):=by
 simp only[aCl.f]
 refine Ep.bind (aPq l hl hm) ?_
 rintro _ rfl
 exact Ep.now rfl
theorem aZu {n:Nat} {es:List E} {x:List Int} (h:zOk (n:Int) es x=true):Mod x:=by
 have hb:=(aGv h).2.1
 intro y hy
 obtain⟨j,hj,rfl⟩:=List.getElem_of_mem hy
 have:=hb (j:Int) (by omega) (by omega)
 rw[aEh hj]at this
 omega
theorem aOj (l:List Int) (wl:SL (Wf .u8) l):Ep (λk=>aAz.f k l) (·=true):=by
 simp only[aAz.f]
 refine Ep.ite (λ_=>Ep.now rfl) (λhc=>?_)
 have hb:l.length<=1048576:=by omega
 refine Ep.bind (aU6 l hb) ?_
 rintro⟨n',es⟩ ⟨n,hn,h2,h5,hg⟩
 dsimp only at hn hg ⊢
 subst hn
 have g:Gr n es 0:=Gr.of hg (by omega)
 have hw:Wf .i64 (n:Int):=by simp[Wf,Lit.wf,IntKind.min,IntKind.max,IntKind.signed,IntKind.bits];omega
 have len:∀ {x:List Int},zOk (n:Int) es x=true->x.length<=1048576:=λh=>by have:=(aGv h).1;omega
 refine Ep.bind (aQz l hb 20 (by omega) h2 h5 hg) ?_
 rintro a ⟨za,la⟩
 refine Ep.bind (aQz l hb 40 (by omega) h2 h5 hg) ?_
 rintro b ⟨zb,lb⟩
 obtain⟨s,es1,ms,zs⟩:=aQ5 h5 g hg za zb
 obtain⟨i,ei,mi,zi⟩:=bAu h5 g hg za
 have es2:aRt (n:Int) es b a=(s,true):=by
  rw[<-es1]
  unfold aRt
  rw[za,zb,aS1 (lb.trans la.symm)]
 refine Ep.bind (P:=(·=(s,true))) ((aKh (n:Int) es a b (len za) (len zb)).mono λr hr=>hr.trans es1) ?_
 rintro _ rfl
 refine Ep.bind (P:=(·=(s,true))) ((aKh (n:Int) es b a (len zb) (len za)).mono λr hr=>hr.trans es2) ?_
 rintro _ rfl
 refine Ep.bind (P:=(·=(i,true))) ((aXc (n:Int) es a hw (len za)).mono λr hr=>hr.trans ei) ?_
 rintro _ rfl
 obtain⟨ls,bs,ss⟩:=aGv zs
 obtain⟨li,bi,si⟩:=aGv zi
 refine Ep.pos rfl (Ep.pos rfl (Ep.pos rfl (Ep.bind (aN5 rfl (len zs)) ?_)))
 rintro _ rfl
 refine Ep.pos rfl (Ep.pos (by dsimp only;omega) (Ep.pos (by dsimp only;omega) (Ep.bind (aXd s (len zs) (aZu zs)) ?_)))
 rintro _ rfl
 rw[ss]
 refine Ep.up ?_
 simp only[aAz.j0]
 refine Ep.neg (by simp) ?_
 obtain⟨back,eb,mb,bGl⟩:=aQ5 h5 g hg zs zi
 obtain⟨z,ez,mz,zz⟩:=aQ5 h5 g hg za zi
 have hback:back=(aF3 n es 0 b).1:=(aXk g la ms mi mb).unique g.n1 g.hes (bAt g zb)
 have hzero:z=List.replicate n 0:=aXj g la mi mz
 refine Ep.bind (P:=(·=(back,true))) ((aKh (n:Int) es s i (len zs) (len zi)).mono λr hr=>hr.trans eb) ?_
 rintro _ rfl
 refine Ep.bind (aXa hg hw zb) ?_
 rintro _ rfl
 refine Ep.bind (P:=(·=(z,true))) ((aKh (n:Int) es a i (len za) (len zi)).mono λr hr=>hr.trans ez) ?_
 rintro _ rfl
 refine Ep.bind (bDx (n:Int) es hw) ?_
 rintro _ rfl
 have last:∀ (al:Bool),(al=false->¬ aJo es (vsL n 0)<=400)->Ep (λk=>aAz.j1 k back true (aF3 n es 0 b).1 true z true al false (n:Int) es) (·=true):=by
  intro al hal
  refine Ep.up ?_
  simp only[aAz.j1]
  refine Ep.neg (by simp) (Ep.pos (by first|rfl|trivial) (Ep.pos (by first|rfl|trivial) (Ep.pos (by first|rfl|trivial) (Ep.bind (aN5 hback (len bGl)) ?_))))
  rintro _ rfl
  refine Ep.pos rfl (Ep.pos (by omega) (Ep.pos (by omega) (Ep.bind (aN5 (by rw[Int.toNat_natCast];exact hzero) (len zz)) ?_)))
  rintro _ rfl
  refine Ep.pos rfl ?_
  cases al with
  | true=>exact Ep.pos rfl (Ep.now rfl)
  | false =>
   refine Ep.neg (by simp) (Ep.bind (aUg hg) ?_)
   rintro _ rfl
   exact Ep.now (zdY (by have:=hal rfl;omega))
 unfold clO
 rw[Int.toNat_natCast]
 by_cases h4:aJo es (vsL n 0)<=400
 ·rw[if_pos ⟨aEp.2 hg,h4⟩]
  refine Ep.pos rfl (Ep.bind (aUg hg) ?_)
  rintro _ rfl
  have hcount:((sortL (clL n es)).length:Int)=aJo es (vsL n 0):=by
   rw[aTo]
   unfold clL
   rw[List.length_map]
   exact aRz (q:=0) g
  have e:((((sortL (clL n es)).length:Nat):Int) != aJo es (vsL n 0))=false:=by rw[hcount];simp
  dsimp only
  rw[e]
  exact last true λh=>by cases h
 ·rw[if_neg λh=>h4 h.2]
  exact Ep.neg (by simp) (last false λ_=>h4)
end Cf
namespace Cf
open Go.RowKit Go.ChangeShapes Go.WideShapes Go.Deep Go.Joins Go.Proofs.YtfdaopkbibbhbaaW.PrintWords
section
variable {H:Type} {enc:TypeId×Value->H} {P:Program} {w:World} {base:Nat} {spare:Nat->Bool} {held:Bool}
theorem bD3 {α:Type} {d:Kd α} {Q:α->Prop} (hd:Inhabited α) {t e:TypeId} {fuel:Nat} {cs:List Value} {x:DataW H×List MemPlace} (ht:P.underlying t=some (.slice e)) (hsz:P.cellsOf e=d.sz)
  (hel:∀ (n:Nat) (cs:List Value) (y:DataW H×List MemPlace),DataW.trod enc P w base spare held n e cs=some y->∃ a:α,d.K w a cs/\Q a)
  (h:DataW.trod enc P w base spare held fuel t cs=some x):∃ A len cap xs,cs=[.slice A len cap]/\xs.length=len/\len<=cap/\Kd.C d w A len xs/\SL Q xs:=by
 rcases open_slice ht h with ⟨rfl,_⟩|⟨a,len,cap,m,n,D,Pl,rfl,_,hl,hm,hmm,_,hx⟩
 ·exact⟨none,0,0,[],rfl,rfl,Nat.le_refl _,⟨rfl,by omega,λhn=>by omega⟩,by simp,λx hx=>by cases hx⟩
 ·have hlm:len<=m:=by rw[hmm];split<;>omega
  obtain⟨X,hX⟩:=choose_lt (α:=α) (n:=len) (p:=λi z=>Q z/\∃ c,c.length=d.sz/\d.K w z c/\∀ j u,c[j]? = some u->w.cell? (a.add (i*d.sz+j))=some u) (λi hi=>by
   obtain⟨cs',h1,h2⟩:=hx i (by omega)
   obtain⟨z,hz,hq⟩:=hel n cs' _ h2
   obtain⟨_,hlen,hc⟩:=World.cells?_some h1
   refine⟨z,hq,cs',by rw[hlen,hsz],hz,λj u hj=>?_⟩
   have hjl:j<cs'.length:=by
    apply Classical.byContradiction
    intro hc
    rw[List.getElem?_eq_none (by omega)]at hj
    cases hj
   have:=hc j (by omega)
   rw[Deep.add_add,hsz]at this
   rw[this,hj])
  refine⟨some a,len,cap,(List.range len).map X,rfl,by simp,hl,⟨by simp,?_,λ_=>⟨a,rfl,λj p hj=>?_⟩⟩,by simp;unfold maxLen at hm;omega,λx hx=>?_⟩
  ·unfold maxLen at hm
   omega
  ·have hjl:j<len:=by
    apply Classical.byContradiction
    intro hc
    rw[List.getElem?_eq_none (by simp;omega)]at hj
    cases hj
   have:p=X j:=by
    rw[zdH (by simpa using hjl)]at hj
    simpa using hj.symm
   subst this
   exact(hX j hjl).2
  ·obtain⟨i,hi,rfl⟩:=List.mem_map.1 hx
   exact(hX i (List.mem_range.1 hi)).1
theorem bEh {k:IntKind} {e:TypeId} (he:P.underlying e=some (.int k)):∀ (n:Nat) (cs:List Value) (y:DataW H×List MemPlace),DataW.trod enc P w base spare held n e cs=some y->∃ a:Int,(Kd.int k).K w a cs/\Wf k a:=by
 intro n cs y h
 obtain⟨a,rfl,_,hw⟩:=DataW.trod_int he h
 exact⟨a,rfl,hw⟩
theorem aVa {α:Type} {d:Kd α} {Q:α->Prop} (hd:Inhabited α) {t e:TypeId} {a:Option Addr} {len cap:Nat} {x:DataW H} {ps:List MemPlace} (ht:P.underlying t=some (.slice e)) (hsz:P.cellsOf e=d.sz)
  (hel:∀ (n:Nat) (cs:List Value) (y:DataW H×List MemPlace),DataW.trod enc P w base spare held n e cs=some y->∃ a:α,d.K w a cs/\Q a)
  (h:DataW.Trod enc P w base spare held t (.slice a len cap) x ps):∃ xs:List α,xs.length=len/\len<=cap/\Kd.C d w a len xs/\SL Q xs:=by
 obtain⟨fuel,hf⟩:=h
 obtain⟨A,l,c,xs,hcs,hl,hc,hC,hq⟩:=bD3 hd ht hsz hel hf
 simp[Value.cells]at hcs
 obtain⟨rfl,rfl,rfl⟩:=hcs
 exact⟨xs,hl,hc,hC,hq⟩
end
end Cf
namespace Cf
theorem bLg {a b:Bool} (h:a=true) (k:b=true):(a&&b)=true:=by rw[h,k];rfl
theorem bK1:Try.prog.initOrder.toList=['h','a','r','n','e','s','s',' ','c','0','f','d','d','6','9','e','d','d','a','8','d','3','8','1','5','4','7','7','8','0','9','3','6','4','b','5','d','8','7','7','0','e','a','e','d','9','0','f','9','d','5','f','d','0','2','2','f','a','2','3','e','4','3','9','c','3','c','a','d','0','0','8',' ','c','u','t',' ','a','t',' ','l','o','o','p','.','e','x','a','m','p','l','e','/','g','0','0','8','4','1','/','l','a','w','s','.','F','n','A','c','y','c','l','i','c',' ','l','o','o','p','.','e','x','a','m','p','l','e','/','g','0','0','8','4','1','/','l','a','w','s','.','F','n','E','x','a','c','t','T','u','t','t','e','O','f',' ','l','o','o','p','.','e','x','a','m','p','l','e','/','g','0','0','8','4','1','/','l','a','w','s','.','F','n','T','r','e','e','s',' ','l','o','o','p','.','e','x','a','m','p','l','e','/','g','0','0','8','4','1','/','l','a','w','s','.','F','n','G','r','o','u','p','s']:=by
 have h:Try.prog.initOrder=String.ofList ['h','a','r','n','e','s','s',' ','c','0','f','d','d','6','9','e','d','d','a','8','d','3','8','1','5','4','7','7','8','0','9','3','6','4','b','5','d','8','7','7','0','e','a','e','d','9','0','f','9','d','5','f','d','0','2','2','f','a','2','3','e','4','3','9','c','3','c','a','d','0','0','8',' ','c','u','t',' ','a','t',' ','l','o','o','p','.','e','x','a','m','p','l','e','/','g','0','0','8','4','1','/','l','a','w','s','.','F','n','A','c','y','c','l','i','c',' ','l','o','o','p','.','e','x','a','m','p','l','e','/','g','0','0','8','4','1','/','l','a','w','s','.','F','n','E','x','a','c','t','T','u','t','t','e','O','f',' ','l','o','o','p','.','e','x','a','m','p','l','e','/','g','0','0','8','4','1','/','l','a','w','s','.','F','n','T','r','e','e','s',' ','l','o','o','p','.','e','x','a','m','p','l','e','/','g','0','0','8','4','1','/','l','a','w','s','.','F','n','G','r','o','u','p','s']:=by kernel_rfl
 exact(congrArg String.toList h).trans String.toList_ofList
theorem bGz:behindMainWord (wordsSigns Try.prog.initOrder.toList)=[['c','u','t'],['a','t'],['l','o','o','p','.','e','x','a','m','p','l','e','/','g','0','0','8','4','1','/','l','a','w','s','.','F','n','A','c','y','c','l','i','c'],['l','o','o','p','.','e','x','a','m','p','l','e','/','g','0','0','8','4','1','/','l','a','w','s','.','F','n','E','x','a','c','t','T','u','t','t','e','O','f'],['l','o','o','p','.','e','x','a','m','p','l','e','/','g','0','0','8','4','1','/','l','a','w','s','.','F','n','T','r','e','e','s'],['l','o','o','p','.','e','x','a','m','p','l','e','/','g','0','0','8','4','1','/','l','a','w','s','.','F','n','G','r','o','u','p','s']]:=(congrArg (λx=>behindMainWord (wordsSigns x)) bK1).trans (by kernel_rfl)
theorem bDo {P:Program} {r:List (List Char)} (h:behindMainWord (wordsSigns P.initOrder.toList)=['c','u','t']::r):P.make=some .cut:=by
 unfold Program.make
 rw[h]
 rfl
theorem bDp {P:Program} {r:List (List Char)} (h:behindMainWord (wordsSigns P.initOrder.toList)=['c','u','t']::r) (k:(stripLifts liftWords (['c','u','t']::r)).1=[]):P.liftsFinal=false:=by
 unfold Program.liftsFinal Program.headLifts
 rw[h]
 simp[k]
theorem bEg {P:Program} {r:List (List Char)} (h:behindMainWord (wordsSigns P.initOrder.toList)=['c','u','t']::r) (k1:(stripLifts liftWords (['c','u','t']::r)).1=[]) (k2:((stripLifts liftWords (['c','u','t']::r)).2.head? == some "cut".toList)=true) (h1:P.laysLater=false) (h2:P.bearsReflect=false) (h3:P.doorFits []=true):P.mayEnter=true:=by
 unfold Program.mayEnter
 rw[h]
 simp only[k1,k2,h1,h2,h3]
 simp
theorem make:Try.prog.make=some .cut:=bDo bGz
theorem lifted:Try.prog.liftsFinal=false:=bDp bGz (by kernel_rfl)
theorem enter:Try.prog.mayEnter=true:=bEg bGz (by kernel_rfl) (by kernel_rfl) (by kernel_rfl) (by kernel_rfl) (by kernel_rfl)
end Cf
end Go.Proofs.Ytfdaopkbibbhbaa
