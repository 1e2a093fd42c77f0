/- A part of the proof of aE2. -/
import Derived.Test.YtfdaopkbibbhbaaBFnGroupsWLast
import Derived.Test.YtfdaopkbibbhbaaBFnGroupsWWords
set_option linter.unusedVariables false
set_option linter.unusedSimpArgs false
namespace Go.Proofs.YtfdaopkbibbhbaaW.PrintLast
open Go.Proofs.YtfdaopkbibbhbaaW.PrintWords (aA1)
def aJj (md:Region.Mode) (o:Oper):List Nat:=(o.after.toList.filter (λe=>Region.binds md e)).map (λe=>e.on)
def aQ7 (md:Region.Mode) (ops:Array Oper) (i:Nat) (oi:Oper):List Nat:=(List.range ops.size).filter λj => !(j==i)&&match ops[j]? with
 | some oj => !(oj.after.any (λe=>Region.binds md e&&e.on==i)||oi.apart ops oj)
 | none=>false
def aI2 (md:Region.Mode) (ops:Array Oper):Bool×List (List Nat×List Nat):=(Region.noSelect ops,(List.range ops.size).map λi=>match ops[i]? with
 | some o=>(aJj md o,aQ7 md ops i o)
 | none=>([],[]))
def aHg (T:List (List Nat×List Nat)) (l:List Bool) (i:Nat):Bool := !l.getD i true&&match T[i]? with
 | some r=>r.1.all (λj=>l.getD j false)
 | none=>false
def aMf (T:List (List Nat×List Nat)) (l:List Bool):List Nat:=(List.range T.length).filter (aHg T l)
def aUq (T:List (List Nat×List Nat)) (l:List Bool) (i:Nat):Bool:=match T[i]? with
 | some r=>r.2.all (λj=>l.getD j true)
 | none=>false
def aNk (T:List (List Nat×List Nat)) (l:List Bool):Bool:=(List.range T.length).all λj => !l.getD j false||match T[j]? with
 | some r=>r.1.all (λk=>l.getD k false)
 | none=>true
def aMi (T:List (List Nat×List Nat)) (i:Nat):Nat->Nat->Bool
 | 0,_=>false
 | fuel+1,d=>match T[d]? with
  | some r=>r.1.any λj=>j==i||aMi T i fuel j
  | none=>false
def lastT (T:List (List Nat×List Nat)) (l:List Bool) (ds:List Nat) (i:Nat):Bool:=ds.all λd=>l.getD d true||aMi T i T.length d
section
variable {md:Region.Mode} {ops:Array Oper} {T:Bool×List (List Nat×List Nat)} {l l' li lj lk:Array Bool} {ds:List Nat} {i j k:Nat}
theorem gd (l:Array Bool) (j:Nat) (b:Bool):l.getD j b=l.toList.getD j b:=by simp[Array.getD_eq_getD_getElem?,List.getD_eq_getElem?_getD]
theorem aOc (o:Oper) (p:Nat->Bool):o.after.all (λe => !Region.binds md e||p e.on)=(aJj md o).all p:=by
 unfold aJj
 rw[<-Array.all_toList]
 induction o.after.toList with
 | nil=>rfl
 | cons e r ih =>
  rw[List.all_cons,ih,List.filter_cons]
  cases h:Region.binds md e<;>simp
theorem aU4 (o:Oper) (p:Nat->Bool):o.after.any (λe=>Region.binds md e&&p e.on)=(aJj md o).any p:=by
 unfold aJj
 rw[<-Array.any_toList]
 induction o.after.toList with
 | nil=>rfl
 | cons e r ih =>
  rw[List.any_cons,ih,List.filter_cons]
  cases h:Region.binds md e<;>simp
theorem aGy:(aI2 md ops).2.length=ops.size:=by simp[aI2]
theorem aIu {o:Oper} (h:ops[i]? = some o):(aI2 md ops).2[i]? = some (aJj md o,aQ7 md ops i o):=by
 have hi:=(Array.getElem?_eq_some_iff.1 h).1
 unfold aI2
 rw[List.getElem?_map,List.getElem?_range hi,Option.map_some,h]
theorem aIv (h:ops[i]? = none):(aI2 md ops).2[i]? = none:=by
 have hi:ops.size<=i:=Array.getElem?_eq_none_iff.1 h
 exact List.getElem?_eq_none (by rw[aGy];exact hi)
theorem aS0:aHg (aI2 md ops).2 l.toList i=(!l.getD i true&&((ops[i]?).map (·.after.all λe => !Region.binds md e||l.getD e.on false)).getD false):=by
 unfold aHg
 rw[gd]
 cases h:ops[i]? with
 | none=>rw[aIv h];rfl
 | some o =>
  rw[aIu h]
  simp only[Option.map_some,Option.getD_some]
  rw[<-aOc]
  simp only[gd]
theorem ready_eq:Region.ready md ops l=aMf (aI2 md ops).2 l.toList:=by
 unfold Region.ready aMf
 rw[aGy]
 refine List.filter_congr (λi _=>?_)
 rw[aS0]
theorem free_eq:Region.free md ops l i=aUq (aI2 md ops).2 l.toList i:=by
 unfold Region.free aUq
 cases h:ops[i]? with
 | none=>rw[aIv h]
 | some oi =>
  rw[aIu h]
  simp only[aQ7]
  rw[List.all_filter]
  congr 1
  funext j
  rw[gd]
  cases hj:ops[j]? with
  | none=>cases (j==i)<;>cases (l.toList.getD j true)<;>simp
  | some oj =>
   cases (j==i)<;>cases (l.toList.getD j true)<;>cases (oj.after.any (λe=>Region.binds md e&&e.on==i)||oi.apart ops oj)<;>simp_all
theorem aV0:Region.aLo md ops l=aNk (aI2 md ops).2 l.toList:=by
 unfold Region.aLo aNk
 rw[aGy]
 congr 1
 funext j
 rw[gd]
 cases h:ops[j]? with
 | none=>rw[aIv h]
 | some o =>
  rw[aIu h]
  simp only
  rw[<-aOc]
  simp only[gd]
theorem reach_eq:∀ (fuel d:Nat),Region.aH4 md ops i fuel d=aMi (aI2 md ops).2 i fuel d
 | 0,_=>rfl
 | fuel+1,d=>by
  unfold Region.aH4 aMi
  cases h:ops[d]? with
  | none=>rw[aIv h]
  | some o =>
   rw[aIu h]
   simp only
   rw[<-aU4]
   congr 1
   funext e
   rw[reach_eq fuel]
theorem bAh:Region.lastB md ops l ds i=lastT (aI2 md ops).2 l.toList ds i:=by
 unfold Region.lastB lastT
 rw[aGy]
 congr 1
 funext d
 rw[gd,reach_eq]
theorem aL3 (h:aHg T.2 l.toList i=true) (hT:aI2 md ops=T):(Region.ready md ops l).contains i=true:=by
 subst hT
 rw[ready_eq]
 unfold aMf
 rw[List.contains_iff_mem,List.mem_filter,List.mem_range]
 refine⟨?_,h⟩
 unfold aHg at h
 rw[Bool.and_eq_true]at h
 cases hq:(aI2 md ops).2[i]? with
 | none=>rw[hq]at h;simp at h
 | some r=>exact(List.getElem?_eq_some_iff.1 hq).1
theorem aO3 (h:(l.toList.set i true==l'.toList)=true):(l.setIfInBounds i true==l')=true:=by
 rw[beq_iff_eq]at h ⊢
 apply Array.ext'
 rw[Array.toList_setIfInBounds]
 exact h
def bEy (T:Bool×List (List Nat×List Nat)) (l l':List Bool) (i:Nat):Bool:=T.1&&aUq T.2 l i&&aHg T.2 l i&&(l.set i true==l')
theorem aYx (hT:aI2 md ops=T) (h:bEy T l.toList l'.toList i=true):bGc md ops l l' i=true:=by
 simp only[bEy,Bool.and_eq_true]at h
 obtain⟨⟨⟨h1,h2⟩,h3⟩,h4⟩:=h
 have h5:=aL3 h3 hT
 have h6:=aO3 h4
 subst hT
 simp only[bGc,Bool.and_eq_true]
 exact⟨⟨⟨h1,by rw[free_eq];exact h2⟩,h5⟩,h6⟩
def aZx (T:Bool×List (List Nat×List Nat)) (ds:List Nat) (l l':List Bool) (i:Nat):Bool:=T.1&&aUq T.2 l i&&aHg T.2 l i&&aNk T.2 l&&lastT T.2 l ds i&&(l.set i true==l')
theorem aZw (hT:aI2 md ops=T) (h:aZx T ds l.toList l'.toList i=true):takeB md ops ds l l' i=true:=by
 simp only[aZx,Bool.and_eq_true]at h
 obtain⟨⟨⟨⟨⟨h1,h2⟩,h3⟩,h4⟩,h5⟩,h6⟩:=h
 have h7:=aL3 h3 hT
 have h8:=aO3 h6
 subst hT
 simp only[takeB,Bool.and_eq_true]
 exact⟨⟨⟨⟨⟨h1,by rw[free_eq];exact h2⟩,h7⟩,by rw[aV0];exact h4⟩,by rw[bAh];exact h5⟩,h8⟩
theorem aEs (hT:aI2 md ops=T) (h:(aMf T.2 l.toList==[i]&&l.toList.set i true==l'.toList)=true):aMg md ops l l' i=true:=by
 simp only[Bool.and_eq_true]at h
 obtain⟨h1,h2⟩:=h
 subst hT
 simp only[aMg,Bool.and_eq_true]
 exact⟨by rw[ready_eq];exact h1,aO3 h2⟩
theorem aQi (hT:aI2 md ops=T) (h:(aMf T.2 l.toList==[i,j]&&l.toList.set i true==li.toList&&l.toList.set j true==lj.toList)=true):(Region.ready md ops l==[i,j]&&l.setIfInBounds i true==li&&l.setIfInBounds j true==lj)=true:=by
 simp only[Bool.and_eq_true]at h ⊢
 obtain⟨⟨h1,h2⟩,h3⟩:=h
 subst hT
 exact⟨⟨by rw[ready_eq];exact h1,aO3 h2⟩,aO3 h3⟩
theorem aF7 (hT:aI2 md ops=T) (h:(aMf T.2 l.toList==[])=true):(Region.ready md ops l==[])=true:=by
 subst hT
 rw[ready_eq]
 exact h
def upM (B:List Nat) (d:Nat):List Nat->Nat
 | []=>0
 | n::r=>(2^n ||| (if n<d then B.getD n 0 else 0)) ||| upM B d r
def aFh (T:List (List Nat×List Nat)) (B:List Nat):Bool:=(List.range T.length).all λd=>match T[d]? with
 | some r=>(B.getD d 0 ||| upM B d r.1)==upM B d r.1
 | none=>false
theorem aTf {B:List Nat} {d i:Nat}:∀ {ns:List Nat},(upM B d ns).testBit i=true->∃ n∈ns,n=i∨(n<d/\(B.getD n 0).testBit i=true)
 | [],h=>by simp[upM]at h
 | n::r,h=>by
  unfold upM at h
  rw[Nat.testBit_or,Nat.testBit_or,Bool.or_eq_true,Bool.or_eq_true]at h
  rcases h with (h|h)|h
  ·rw[Nat.testBit_two_pow]at h
   exact⟨n,List.mem_cons_self,.inl (by simpa using h)⟩
  ·by_cases hn:n<d
   ·rw[if_pos hn]at h
    exact⟨n,List.mem_cons_self,.inr ⟨hn,h⟩⟩
   ·rw[if_neg hn]at h
    simp at h
  ·obtain⟨m,hm,h2⟩:=aTf h
   exact⟨m,List.mem_cons_of_mem _ hm,h2⟩
theorem aO6 {T:List (List Nat×List Nat)} {B:List Nat} (hB:aFh T B=true):∀ (fuel d:Nat),d<fuel->d<T.length->(B.getD d 0).testBit i=true->aMi T i fuel d=true
 | 0,d,h,_,_=>by omega
 | fuel+1,d,h,hd,hb=>by
  have h1:=List.all_eq_true.1 hB d (List.mem_range.2 hd)
  cases hr:T[d]? with
  | none=>rw[hr]at h1;simp at h1
  | some r =>
   rw[hr]at h1
   simp only[beq_iff_eq]at h1
   have h2:(upM B d r.1).testBit i=true:=by rw[<-h1,Nat.testBit_or,hb,Bool.true_or]
   obtain⟨n,hn,h3⟩:=aTf h2
   unfold aMi
   rw[hr]
   simp only
   rw[List.any_eq_true]
   refine⟨n,hn,?_⟩
   rcases h3 with rfl|⟨h4,h5⟩
   ·simp
   ·rw[aO6 hB fuel n (by omega) (by omega) h5,Bool.or_true]
def bDr (T:List (List Nat×List Nat)) (B:List Nat) (l:List Bool) (ds:List Nat) (i:Nat):Bool:=ds.all λd=>l.getD d true||(decide (d<T.length)&&(B.getD d 0).testBit i)
def bD4 (T:Bool×List (List Nat×List Nat)) (B:List Nat) (ds:List Nat) (l l':List Bool) (i:Nat):Bool:=T.1&&aUq T.2 l i&&aHg T.2 l i&&aNk T.2 l&&bDr T.2 B l ds i&&(l.set i true==l')
theorem aCp {B:List Nat} (hT:aI2 md ops=T) (hB:aFh T.2 B=true) (h:bD4 T B ds l.toList l'.toList i=true):takeB md ops ds l l' i=true:=by
 refine aZw hT ?_
 simp only[bD4,aZx,Bool.and_eq_true]at h ⊢
 obtain⟨⟨⟨⟨⟨h1,h2⟩,h3⟩,h4⟩,h5⟩,h6⟩:=h
 refine⟨⟨⟨⟨⟨h1,h2⟩,h3⟩,h4⟩,?_⟩,h6⟩
 unfold bDr at h5
 unfold lastT
 rw[List.all_eq_true]at h5 ⊢
 intro d hd
 have h7:=h5 d hd
 rw[Bool.or_eq_true,Bool.and_eq_true,decide_eq_true_eq]at h7
 rcases h7 with h7|⟨h8,h9⟩
 ·rw[h7,Bool.true_or]
 ·rw[aO6 hB _ d h8 h8 h9,Bool.or_true]
theorem aE7 {P:Program} {Q:Exit->Act->World->Prop} {S:World->Prop} {n:Nat} {a:Act} {w:World} {B:List Nat} (hT:aI2 md ops=T) (hB:aFh T.2 B=true) (h:aA1 (aI2 md ops=T)->aA1 (aFh T.2 B=true)->aBw P md ops Q S ds n l a w):aBw P md ops Q S ds n l a w:=h ⟨hT⟩ ⟨hB⟩
end
def aM2:Code->Nat->Option (Array Oper)
 | .region id ops _,k=>if id==k then some ops else none
 | .seq a b,k=>match aM2 a k with
  | some o=>some o
  | none=>aM2 b k
 | .cond _ a b,k=>match aM2 a k with
  | some o=>some o
  | none=>aM2 b k
 | .block _ c,k=>aM2 c k
 | .loop c,k=>aM2 c k
 | .scope c,k=>aM2 c k
 | .rangeFunc _ _ a b,k=>match aM2 a k with
  | some o=>some o
  | none=>aM2 b k
 | _,_=>none
def opsOf (f:Func) (k:Nat):Array Oper:=((f.body.bind λc=>aM2 c k)).getD #[]
end Go.Proofs.YtfdaopkbibbhbaaW.PrintLast
