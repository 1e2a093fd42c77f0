/- A part of the proof of aF3. -/
import Derived.Test.YtnbljcgdgblgoaaGreatBFnListsWLast
import Derived.Test.YtnbljcgdgblgoaaGreatBFnListsWWords
set_option linter.unusedVariables false
set_option linter.unusedSimpArgs false
namespace Go.Proofs.YtnbljcgdgblgoaaGreatW.PrintLast
open Go.Proofs.YtnbljcgdgblgoaaGreatW.PrintWords (aA2)
def aLf (md:Region.Mode) (o:Oper):List Nat:=(o.after.toList.filter (λe=>Region.binds md e)).map (λe=>e.on)
def aTl (md:Region.Mode) (ops:Array Oper) (i:Nat) (oi:Oper):List Nat:=(List.range ops.size).filter λj => !(j==i)&&match ops[j]? with
 | some oj => !(oj.after.any (λe=>Region.binds md e&&e.on==i)||oi.apart ops oj)
 | none=>false
def aIo (md:Region.Mode) (ops:Array Oper):Bool×List (List Nat×List Nat):=(Region.noSelect ops,(List.range ops.size).map λi=>match ops[i]? with
 | some o=>(aLf md o,aTl md ops i o)
 | none=>([],[]))
def aJ2 (T:List (List Nat×List Nat)) (l:List Bool) (i:Nat):Bool := !l.getD i true&&match T[i]? with
 | some r=>r.1.all (λj=>l.getD j false)
 | none=>false
def aOc (T:List (List Nat×List Nat)) (l:List Bool):List Nat:=(List.range T.length).filter (aJ2 T l)
def aZk (T:List (List Nat×List Nat)) (l:List Bool) (i:Nat):Bool:=match T[i]? with
 | some r=>r.2.all (λj=>l.getD j true)
 | none=>false
def aPn (T:List (List Nat×List Nat)) (l:List Bool):Bool:=(List.range T.length).all λj => !l.getD j false||match T[j]? with
 | some r=>r.1.all (λk=>l.getD k false)
 | none=>true
def aOe (T:List (List Nat×List Nat)) (i:Nat):Nat->Nat->Bool
 | 0,_=>false
 | fuel+1,d=>match T[d]? with
  | some r=>r.1.any λj=>j==i||aOe T i fuel j
  | none=>false
def lastT (T:List (List Nat×List Nat)) (l:List Bool) (ds:List Nat) (i:Nat):Bool:=ds.all λd=>l.getD d true||aOe T i T.length d
section
variable {md:Region.Mode} {ops:Array Oper} {T:Bool×List (List Nat×List Nat)} {l l' li lj lk:Array Bool} {ds:List Nat} {i j k:Nat}
theorem gd (l:Array Bool) (j:Nat) (b:Bool):l.getD j b=l.toList.getD j b:=by simp[Array.getD_eq_getD_getElem?,List.getD_eq_getElem?_getD]
theorem aQu (o:Oper) (p:Nat->Bool):o.after.all (λe => !Region.binds md e||p e.on)=(aLf md o).all p:=by
 unfold aLf
 rw[<-Array.all_toList]
 induction o.after.toList with
 | nil=>rfl
 | cons e r ih =>
  rw[List.all_cons,ih,List.filter_cons]
  cases h:Region.binds md e<;>simp
theorem aYt (o:Oper) (p:Nat->Bool):o.after.any (λe=>Region.binds md e&&p e.on)=(aLf md o).any p:=by
 unfold aLf
 rw[<-Array.any_toList]
 induction o.after.toList with
 | nil=>rfl
 | cons e r ih =>
  rw[List.any_cons,ih,List.filter_cons]
  cases h:Region.binds md e<;>simp
theorem aIa:(aIo md ops).2.length=ops.size:=by simp[aIo]
theorem aKm {o:Oper} (h:ops[i]? = some o):(aIo md ops).2[i]? = some (aLf md o,aTl md ops i o):=by
 have hi:=(Array.getElem?_eq_some_iff.1 h).1
 unfold aIo
 rw[List.getElem?_map,List.getElem?_range hi,Option.map_some,h]
theorem aKn (h:ops[i]? = none):(aIo md ops).2[i]? = none:=by
 have hi:ops.size<=i:=Array.getElem?_eq_none_iff.1 h
 exact List.getElem?_eq_none (by rw[aIa];exact hi)
theorem aW6:aJ2 (aIo md ops).2 l.toList i=(!l.getD i true&&((ops[i]?).map (·.after.all λe => !Region.binds md e||l.getD e.on false)).getD false):=by
 unfold aJ2
 rw[gd]
 cases h:ops[i]? with
 | none=>rw[aKn h];rfl
 | some o =>
  rw[aKm h]
  simp only[Option.map_some,Option.getD_some]
  rw[<-aQu]
  simp only[gd]
theorem ready_eq:Region.ready md ops l=aOc (aIo md ops).2 l.toList:=by
 unfold Region.ready aOc
 rw[aIa]
 refine List.filter_congr (λi _=>?_)
 rw[aW6]
theorem free_eq:Region.free md ops l i=aZk (aIo md ops).2 l.toList i:=by
 unfold Region.free aZk
 cases h:ops[i]? with
 | none=>rw[aKn h]
 | some oi =>
  rw[aKm h]
  simp only[aTl]
  rw[List.all_filter]
  congr 1
  funext j
  rw[gd]
  cases hj:ops[j]? with
  | none=>cases (j==i)<;>cases (l.toList.getD j true)<;>simp
  | some oj =>
   cases (j==i)<;>cases (l.toList.getD j true)<;>cases (oj.after.any (λe=>Region.binds md e&&e.on==i)||oi.apart ops oj)<;>simp_all
theorem aZt:Region.aNn md ops l=aPn (aIo md ops).2 l.toList:=by
 unfold Region.aNn aPn
 rw[aIa]
 congr 1
 funext j
 rw[gd]
 cases h:ops[j]? with
 | none=>rw[aKn h]
 | some o =>
  rw[aKm h]
  simp only
  rw[<-aQu]
  simp only[gd]
theorem reach_eq:∀ (fuel d:Nat),Region.aIm md ops i fuel d=aOe (aIo md ops).2 i fuel d
 | 0,_=>rfl
 | fuel+1,d=>by
  unfold Region.aIm aOe
  cases h:ops[d]? with
  | none=>rw[aKn h]
  | some o =>
   rw[aKm h]
   simp only
   rw[<-aYt]
   congr 1
   funext e
   rw[reach_eq fuel]
theorem bFu:Region.lastB md ops l ds i=lastT (aIo md ops).2 l.toList ds i:=by
 unfold Region.lastB lastT
 rw[aIa]
 congr 1
 funext d
 rw[gd,reach_eq]
theorem aN8 (h:aJ2 T.2 l.toList i=true) (hT:aIo md ops=T):(Region.ready md ops l).contains i=true:=by
 subst hT
 rw[ready_eq]
 unfold aOc
 rw[List.contains_iff_mem,List.mem_filter,List.mem_range]
 refine⟨?_,h⟩
 unfold aJ2 at h
 rw[Bool.and_eq_true]at h
 cases hq:(aIo md ops).2[i]? with
 | none=>rw[hq]at h;simp at h
 | some r=>exact(List.getElem?_eq_some_iff.1 hq).1
theorem aQk (h:(l.toList.set i true==l'.toList)=true):(l.setIfInBounds i true==l')=true:=by
 rw[beq_iff_eq]at h ⊢
 apply Array.ext'
 rw[Array.toList_setIfInBounds]
 exact h
def bLx (T:Bool×List (List Nat×List Nat)) (l l':List Bool) (i:Nat):Bool:=T.1&&aZk T.2 l i&&aJ2 T.2 l i&&(l.set i true==l')
theorem bEc (hT:aIo md ops=T) (h:bLx T l.toList l'.toList i=true):bNx md ops l l' i=true:=by
 simp only[bLx,Bool.and_eq_true]at h
 obtain⟨⟨⟨h1,h2⟩,h3⟩,h4⟩:=h
 have h5:=aN8 h3 hT
 have h6:=aQk h4
 subst hT
 simp only[bNx,Bool.and_eq_true]
 exact⟨⟨⟨h1,by rw[free_eq];exact h2⟩,h5⟩,h6⟩
def bF4 (T:Bool×List (List Nat×List Nat)) (ds:List Nat) (l l':List Bool) (i:Nat):Bool:=T.1&&aZk T.2 l i&&aJ2 T.2 l i&&aPn T.2 l&&lastT T.2 l ds i&&(l.set i true==l')
theorem bF3 (hT:aIo md ops=T) (h:bF4 T ds l.toList l'.toList i=true):takeB md ops ds l l' i=true:=by
 simp only[bF4,Bool.and_eq_true]at h
 obtain⟨⟨⟨⟨⟨h1,h2⟩,h3⟩,h4⟩,h5⟩,h6⟩:=h
 have h7:=aN8 h3 hT
 have h8:=aQk h6
 subst hT
 simp only[takeB,Bool.and_eq_true]
 exact⟨⟨⟨⟨⟨h1,by rw[free_eq];exact h2⟩,h7⟩,by rw[aZt];exact h4⟩,by rw[bFu];exact h5⟩,h8⟩
theorem aE3 (hT:aIo md ops=T) (h:(aOc T.2 l.toList==[i]&&l.toList.set i true==l'.toList)=true):aOd md ops l l' i=true:=by
 simp only[Bool.and_eq_true]at h
 obtain⟨h1,h2⟩:=h
 subst hT
 simp only[aOd,Bool.and_eq_true]
 exact⟨by rw[ready_eq];exact h1,aQk h2⟩
theorem aU1 (hT:aIo md ops=T) (h:(aOc T.2 l.toList==[i,j]&&l.toList.set i true==li.toList&&l.toList.set j true==lj.toList)=true):(Region.ready md ops l==[i,j]&&l.setIfInBounds i true==li&&l.setIfInBounds j true==lj)=true:=by
 simp only[Bool.and_eq_true]at h ⊢
 obtain⟨⟨h1,h2⟩,h3⟩:=h
 subst hT
 exact⟨⟨by rw[ready_eq];exact h1,aQk h2⟩,aQk h3⟩
theorem aF8 (hT:aIo md ops=T) (h:(aOc T.2 l.toList==[])=true):(Region.ready md ops l==[])=true:=by
 subst hT
 rw[ready_eq]
 exact h
def upM (B:List Nat) (d:Nat):List Nat->Nat
 | []=>0
 | n::r=>(2^n ||| (if n<d then B.getD n 0 else 0)) ||| upM B d r
def aFn (T:List (List Nat×List Nat)) (B:List Nat):Bool:=(List.range T.length).all λd=>match T[d]? with
 | some r=>(B.getD d 0 ||| upM B d r.1)==upM B d r.1
 | none=>false
theorem aXs {B:List Nat} {d i:Nat}:∀ {ns:List Nat},(upM B d ns).testBit i=true->∃ n∈ns,n=i∨(n<d/\(B.getD n 0).testBit i=true)
 | [],h=>by simp[upM]at h
 | n::r,h=>by
  unfold upM at h
  rw[Nat.testBit_or,Nat.testBit_or,Bool.or_eq_true,Bool.or_eq_true]at h
  rcases h with (h|h)|h
  ·rw[Nat.testBit_two_pow]at h
   exact⟨n,List.mem_cons_self,.inl (by simpa using h)⟩
  ·by_cases hn:n<d
   ·rw[if_pos hn]at h
    exact⟨n,List.mem_cons_self,.inr ⟨hn,h⟩⟩
   ·rw[if_neg hn]at h
    simp at h
  ·obtain⟨m,hm,h2⟩:=aXs h
   exact⟨m,List.mem_cons_of_mem _ hm,h2⟩
theorem aQl {T:List (List Nat×List Nat)} {B:List Nat} (hB:aFn T B=true):∀ (fuel d:Nat),d<fuel->d<T.length->(B.getD d 0).testBit i=true->aOe T i fuel d=true
 | 0,d,h,_,_=>by omega
 | fuel+1,d,h,hd,hb=>by
  have h1:=List.all_eq_true.1 hB d (List.mem_range.2 hd)
  cases hr:T[d]? with
  | none=>rw[hr]at h1;simp at h1
  | some r =>
   rw[hr]at h1
   simp only[beq_iff_eq]at h1
   have h2:(upM B d r.1).testBit i=true:=by rw[<-h1,Nat.testBit_or,hb,Bool.true_or]
   obtain⟨n,hn,h3⟩:=aXs h2
   unfold aOe
   rw[hr]
   simp only
   rw[List.any_eq_true]
   refine⟨n,hn,?_⟩
   rcases h3 with rfl|⟨h4,h5⟩
   ·simp
   ·rw[aQl hB fuel n (by omega) (by omega) h5,Bool.or_true]
def bJu (T:List (List Nat×List Nat)) (B:List Nat) (l:List Bool) (ds:List Nat) (i:Nat):Bool:=ds.all λd=>l.getD d true||(decide (d<T.length)&&(B.getD d 0).testBit i)
def bIz (T:Bool×List (List Nat×List Nat)) (B:List Nat) (ds:List Nat) (l l':List Bool) (i:Nat):Bool:=T.1&&aZk T.2 l i&&aJ2 T.2 l i&&aPn T.2 l&&bJu T.2 B l ds i&&(l.set i true==l')
theorem aC7 {B:List Nat} (hT:aIo md ops=T) (hB:aFn T.2 B=true) (h:bIz T B ds l.toList l'.toList i=true):takeB md ops ds l l' i=true:=by
 refine bF3 hT ?_
 simp only[bIz,bF4,Bool.and_eq_true]at h ⊢
 obtain⟨⟨⟨⟨⟨h1,h2⟩,h3⟩,h4⟩,h5⟩,h6⟩:=h
 refine⟨⟨⟨⟨⟨h1,h2⟩,h3⟩,h4⟩,?_⟩,h6⟩
 unfold bJu at h5
 unfold lastT
 rw[List.all_eq_true]at h5 ⊢
 intro d hd
 have h7:=h5 d hd
 rw[Bool.or_eq_true,Bool.and_eq_true,decide_eq_true_eq]at h7
 rcases h7 with h7|⟨h8,h9⟩
 ·rw[h7,Bool.true_or]
 ·rw[aQl hB _ d h8 h8 h9,Bool.or_true]
theorem aE1 {P:Program} {Q:Exit->Act->World->Prop} {S:World->Prop} {n:Nat} {a:Act} {w:World} {B:List Nat} (hT:aIo md ops=T) (hB:aFn T.2 B=true) (h:aA2 (aIo md ops=T)->aA2 (aFn T.2 B=true)->aC8 P md ops Q S ds n l a w):aC8 P md ops Q S ds n l a w:=h ⟨hT⟩ ⟨hB⟩
end
def aO2:Code->Nat->Option (Array Oper)
 | .region id ops _,k=>if id==k then some ops else none
 | .seq a b,k=>match aO2 a k with
  | some o=>some o
  | none=>aO2 b k
 | .cond _ a b,k=>match aO2 a k with
  | some o=>some o
  | none=>aO2 b k
 | .block _ c,k=>aO2 c k
 | .loop c,k=>aO2 c k
 | .scope c,k=>aO2 c k
 | .rangeFunc _ _ a b,k=>match aO2 a k with
  | some o=>some o
  | none=>aO2 b k
 | _,_=>none
def opsOf (f:Func) (k:Nat):Array Oper:=((f.body.bind λc=>aO2 c k)).getD #[]
end Go.Proofs.YtnbljcgdgblgoaaGreatW.PrintLast
