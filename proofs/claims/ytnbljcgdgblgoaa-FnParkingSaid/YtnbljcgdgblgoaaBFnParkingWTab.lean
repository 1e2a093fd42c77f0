/- A part of the proof of FnParking. -/
import Derived.Test.YtnbljcgdgblgoaaBFnParkingWLast
import Derived.Test.YtnbljcgdgblgoaaBFnParkingWWords
set_option linter.unusedVariables false
set_option linter.unusedSimpArgs false
namespace Go.Proofs.YtnbljcgdgblgoaaW.PrintLast
open Go.Proofs.YtnbljcgdgblgoaaW.PrintWords (Aside0)
def aHg (md:Region.Mode) (o:Oper):List Nat:=(o.after.toList.filter (fun e=>Region.binds md e)).map (fun e=>e.on)
def aMs (md:Region.Mode) (ops:Array Oper) (i:Nat) (oi:Oper):List Nat:=(List.range ops.size).filter fun j => !(j==i)&&match ops[j]? with
 | some oj => !(oj.after.any (fun e=>Region.binds md e&&e.on==i)||oi.apart ops oj)
 | none=>false
def aFp (md:Region.Mode) (ops:Array Oper):Bool×List (List Nat×List Nat):=(Region.noSelect ops,(List.range ops.size).map fun i=>match ops[i]? with
 | some o=>(aHg md o,aMs md ops i o)
 | none=>([],[]))
def aFw (T:List (List Nat×List Nat)) (l:List Bool) (i:Nat):Bool := !l.getD i true&&match T[i]? with
 | some r=>r.1.all (fun j=>l.getD j false)
 | none=>false
def aJ9 (T:List (List Nat×List Nat)) (l:List Bool):List Nat:=(List.range T.length).filter (aFw T l)
def aQl (T:List (List Nat×List Nat)) (l:List Bool) (i:Nat):Bool:=match T[i]? with
 | some r=>r.2.all (fun j=>l.getD j true)
 | none=>false
def aK9 (T:List (List Nat×List Nat)) (l:List Bool):Bool:=(List.range T.length).all fun j => !l.getD j false||match T[j]? with
 | some r=>r.1.all (fun k=>l.getD k false)
 | none=>true
def aJb (T:List (List Nat×List Nat)) (i:Nat):Nat→Nat→Bool
 | 0,_=>false
 | fuel+1,d=>match T[d]? with
  | some r=>r.1.any fun j=>j==i||aJb T i fuel j
  | none=>false
def aS9 (T:List (List Nat×List Nat)) (l:List Bool) (ds:List Nat) (i:Nat):Bool:=ds.all fun d=>l.getD d true||aJb T i T.length d
section
variable {md:Region.Mode} {ops:Array Oper} {T:Bool×List (List Nat×List Nat)} {l l' li lj lk:Array Bool} {ds:List Nat} {i j k:Nat}
theorem gd (l:Array Bool) (j:Nat) (b:Bool):l.getD j b=l.toList.getD j b:=by simp[Array.getD_eq_getD_getElem?,List.getD_eq_getElem?_getD]
theorem aL1 (o:Oper) (p:Nat→Bool):o.after.all (fun e => !Region.binds md e||p e.on)=(aHg md o).all p:=by
 unfold aHg
 rw[← Array.all_toList]
 induction o.after.toList with
 | nil=>rfl
 | cons e r ih =>
  rw[List.all_cons,ih,List.filter_cons]
  cases h:Region.binds md e<;>simp
theorem aQ3 (o:Oper) (p:Nat→Bool):o.after.any (fun e=>Region.binds md e&&p e.on)=(aHg md o).any p:=by
 unfold aHg
 rw[← Array.any_toList]
 induction o.after.toList with
 | nil=>rfl
 | cons e r ih =>
  rw[List.any_cons,ih,List.filter_cons]
  cases h:Region.binds md e<;>simp
theorem aFf:(aFp md ops).2.length=ops.size:=by simp[aFp]
theorem aH7 {o:Oper} (h:ops[i]? = some o):(aFp md ops).2[i]? = some (aHg md o,aMs md ops i o):=by
 have hi:=(Array.getElem?_eq_some_iff.1 h).1
 unfold aFp
 rw[List.getElem?_map,List.getElem?_range hi,Option.map_some,h]
theorem aH8 (h:ops[i]? = none):(aFp md ops).2[i]? = none:=by
 have hi:ops.size≤i:=Array.getElem?_eq_none_iff.1 h
 exact List.getElem?_eq_none (by rw[aFf];exact hi)
theorem aOi:aFw (aFp md ops).2 l.toList i=(!l.getD i true&&((ops[i]?).map (·.after.all fun e => !Region.binds md e||l.getD e.on false)).getD false):=by
 unfold aFw
 rw[gd]
 cases h:ops[i]? with
 | none=>rw[aH8 h];rfl
 | some o =>
  rw[aH7 h]
  simp only[Option.map_some,Option.getD_some]
  rw[← aL1]
  simp only[gd]
theorem aI0:Region.ready md ops l=aJ9 (aFp md ops).2 l.toList:=by
 unfold Region.ready aJ9
 rw[aFf]
 refine List.filter_congr (fun i _=>?_)
 rw[aOi]
theorem aQk:Region.free md ops l i=aQl (aFp md ops).2 l.toList i:=by
 unfold Region.free aQl
 cases h:ops[i]? with
 | none=>rw[aH8 h]
 | some oi =>
  rw[aH7 h]
  simp only[aMs]
  rw[List.all_filter]
  congr 1
  funext j
  rw[gd]
  cases hj:ops[j]? with
  | none=>cases (j==i)<;>cases (l.toList.getD j true)<;>simp
  | some oj =>
   cases (j==i)<;>cases (l.toList.getD j true)<;>cases (oj.after.any (fun e=>Region.binds md e&&e.on==i)||oi.apart ops oj)<;>simp_all
theorem aQs:Region.closedB md ops l=aK9 (aFp md ops).2 l.toList:=by
 unfold Region.closedB aK9
 rw[aFf]
 congr 1
 funext j
 rw[gd]
 cases h:ops[j]? with
 | none=>rw[aH8 h]
 | some o =>
  rw[aH7 h]
  simp only
  rw[← aL1]
  simp only[gd]
theorem aNj:∀ (fuel d:Nat),Region.reachB md ops i fuel d=aJb (aFp md ops).2 i fuel d
 | 0,_=>rfl
 | fuel+1,d=>by
  unfold Region.reachB aJb
  cases h:ops[d]? with
  | none=>rw[aH8 h]
  | some o =>
   rw[aH7 h]
   simp only
   rw[← aQ3]
   congr 1
   funext e
   rw[aNj fuel]
theorem aUb:Region.lastB md ops l ds i=aS9 (aFp md ops).2 l.toList ds i:=by
 unfold Region.lastB aS9
 rw[aFf]
 congr 1
 funext d
 rw[gd,aNj]
theorem aIe (h:aFw T.2 l.toList i=true) (hT:aFp md ops=T):(Region.ready md ops l).contains i=true:=by
 subst hT
 rw[aI0]
 unfold aJ9
 rw[List.contains_iff_mem,List.mem_filter,List.mem_range]
 refine⟨?_,h⟩
 unfold aFw at h
 rw[Bool.and_eq_true]at h
 cases hq:(aFp md ops).2[i]? with
 | none=>rw[hq]at h;simp at h
 | some r=>exact(List.getElem?_eq_some_iff.1 hq).1
theorem aKt (h:(l.toList.set i true==l'.toList)=true):(l.setIfInBounds i true==l')=true:=by
 rw[beq_iff_eq]at h ⊢
 apply Array.ext'
 rw[Array.toList_setIfInBounds]
 exact h
def aXs (T:Bool×List (List Nat×List Nat)) (l l':List Bool) (i:Nat):Bool:=T.1&&aQl T.2 l i&&aFw T.2 l i&&(l.set i true==l')
theorem aTb (hT:aFp md ops=T) (h:aXs T l.toList l'.toList i=true):aYl md ops l l' i=true:=by
 simp only[aXs,Bool.and_eq_true]at h
 obtain⟨⟨⟨h1,h2⟩,h3⟩,h4⟩:=h
 have h5:=aIe h3 hT
 have h6:=aKt h4
 subst hT
 simp only[aYl,Bool.and_eq_true]
 exact⟨⟨⟨h1,by rw[aQk];exact h2⟩,h5⟩,h6⟩
def aTu (T:Bool×List (List Nat×List Nat)) (ds:List Nat) (l l':List Bool) (i:Nat):Bool:=T.1&&aQl T.2 l i&&aFw T.2 l i&&aK9 T.2 l&&aS9 T.2 l ds i&&(l.set i true==l')
theorem aTt (hT:aFp md ops=T) (h:aTu T ds l.toList l'.toList i=true):aPj md ops ds l l' i=true:=by
 simp only[aTu,Bool.and_eq_true]at h
 obtain⟨⟨⟨⟨⟨h1,h2⟩,h3⟩,h4⟩,h5⟩,h6⟩:=h
 have h7:=aIe h3 hT
 have h8:=aKt h6
 subst hT
 simp only[aPj,Bool.and_eq_true]
 exact⟨⟨⟨⟨⟨h1,by rw[aQk];exact h2⟩,h7⟩,by rw[aQs];exact h4⟩,by rw[aUb];exact h5⟩,h8⟩
theorem aDo (hT:aFp md ops=T) (h:(aJ9 T.2 l.toList==[i]&&l.toList.set i true==l'.toList)=true):aJa md ops l l' i=true:=by
 simp only[Bool.and_eq_true]at h
 obtain⟨h1,h2⟩:=h
 subst hT
 simp only[aJa,Bool.and_eq_true]
 exact⟨by rw[aI0];exact h1,aKt h2⟩
theorem aN4 (hT:aFp md ops=T) (h:(aJ9 T.2 l.toList==[i,j]&&l.toList.set i true==li.toList&&l.toList.set j true==lj.toList)=true):(Region.ready md ops l==[i,j]&&l.setIfInBounds i true==li&&l.setIfInBounds j true==lj)=true:=by
 simp only[Bool.and_eq_true]at h ⊢
 obtain⟨⟨h1,h2⟩,h3⟩:=h
 subst hT
 exact⟨⟨by rw[aI0];exact h1,aKt h2⟩,aKt h3⟩
theorem aDy (hT:aFp md ops=T) (h:(aJ9 T.2 l.toList==[])=true):(Region.ready md ops l==[])=true:=by
 subst hT
 rw[aI0]
 exact h
def upM (B:List Nat) (d:Nat):List Nat→Nat
 | []=>0
 | n::r=>(2^n ||| (if n<d then B.getD n 0 else 0)) ||| upM B d r
def aEa (T:List (List Nat×List Nat)) (B:List Nat):Bool:=(List.range T.length).all fun d=>match T[d]? with
 | some r=>(B.getD d 0 ||| upM B d r.1)==upM B d r.1
 | none=>false
theorem aPd {B:List Nat} {d i:Nat}:∀ {ns:List Nat},(upM B d ns).testBit i=true→∃ n∈ns,n=i∨(n<d∧(B.getD n 0).testBit i=true)
 | [],h=>by simp[upM]at h
 | n::r,h=>by
  unfold upM at h
  rw[Nat.testBit_or,Nat.testBit_or,Bool.or_eq_true,Bool.or_eq_true]at h
  rcases h with (h|h)|h
  ·rw[Nat.testBit_two_pow]at h
   exact⟨n,List.mem_cons_self,.inl (by simpa using h)⟩
  ·by_cases hn:n<d
   ·rw[if_pos hn]at h
    exact⟨n,List.mem_cons_self,.inr ⟨hn,h⟩⟩
   ·rw[if_neg hn]at h
    simp at h
  ·obtain⟨m,hm,h2⟩:=aPd h
   exact⟨m,List.mem_cons_of_mem _ hm,h2⟩
theorem aKu {T:List (List Nat×List Nat)} {B:List Nat} (hB:aEa T B=true):∀ (fuel d:Nat),d<fuel→d<T.length→(B.getD d 0).testBit i=true→aJb T i fuel d=true
 | 0,d,h,_,_=>by omega
 | fuel+1,d,h,hd,hb=>by
  have h1:=List.all_eq_true.1 hB d (List.mem_range.2 hd)
  cases hr:T[d]? with
  | none=>rw[hr]at h1;simp at h1
  | some r =>
   rw[hr]at h1
   simp only[beq_iff_eq]at h1
   have h2:(upM B d r.1).testBit i=true:=by rw[← h1,Nat.testBit_or,hb,Bool.true_or]
   obtain⟨n,hn,h3⟩:=aPd h2
   unfold aJb
   rw[hr]
   simp only
   rw[List.any_eq_true]
   refine⟨n,hn,?_⟩
   rcases h3 with rfl|⟨h4,h5⟩
   ·simp
   ·rw[aKu hB fuel n (by omega) (by omega) h5,Bool.or_true]
def aX8 (T:List (List Nat×List Nat)) (B:List Nat) (l:List Bool) (ds:List Nat) (i:Nat):Bool:=ds.all fun d=>l.getD d true||(decide (d<T.length)&&(B.getD d 0).testBit i)
def aWx (T:Bool×List (List Nat×List Nat)) (B:List Nat) (ds:List Nat) (l l':List Bool) (i:Nat):Bool:=T.1&&aQl T.2 l i&&aFw T.2 l i&&aK9 T.2 l&&aX8 T.2 B l ds i&&(l.set i true==l')
theorem aC0 {B:List Nat} (hT:aFp md ops=T) (hB:aEa T.2 B=true) (h:aWx T B ds l.toList l'.toList i=true):aPj md ops ds l l' i=true:=by
 refine aTt hT ?_
 simp only[aWx,aTu,Bool.and_eq_true]at h ⊢
 obtain⟨⟨⟨⟨⟨h1,h2⟩,h3⟩,h4⟩,h5⟩,h6⟩:=h
 refine⟨⟨⟨⟨⟨h1,h2⟩,h3⟩,h4⟩,?_⟩,h6⟩
 unfold aX8 at h5
 unfold aS9
 rw[List.all_eq_true]at h5 ⊢
 intro d hd
 have h7:=h5 d hd
 rw[Bool.or_eq_true,Bool.and_eq_true,decide_eq_true_eq]at h7
 rcases h7 with h7|⟨h8,h9⟩
 ·rw[h7,Bool.true_or]
 ·rw[aKu hB _ d h8 h8 h9,Bool.or_true]
theorem aDc {P:Program} {Q:Exit→Act→World→Prop} {S:World→Prop} {n:Nat} {a:Act} {w:World} {B:List Nat} (hT:aFp md ops=T) (hB:aEa T.2 B=true) (h:Aside0 (aFp md ops=T)→Aside0 (aEa T.2 B=true)→aBq P md ops Q S ds n l a w):aBq P md ops Q S ds n l a w:=h ⟨hT⟩ ⟨hB⟩
end
def aIx:Code→Nat→Option (Array Oper)
 | .region id ops _,k=>if id==k then some ops else none
 | .seq a b,k=>match aIx a k with
  | some o=>some o
  | none=>aIx b k
 | .cond _ a b,k=>match aIx a k with
  | some o=>some o
  | none=>aIx b k
 | .block _ c,k=>aIx c k
 | .loop c,k=>aIx c k
 | .scope c,k=>aIx c k
 | .rangeFunc _ _ a b,k=>match aIx a k with
  | some o=>some o
  | none=>aIx b k
 | _,_=>none
def opsOf (f:Func) (k:Nat):Array Oper:=((f.body.bind fun c=>aIx c k)).getD #[]
end Go.Proofs.YtnbljcgdgblgoaaW.PrintLast
