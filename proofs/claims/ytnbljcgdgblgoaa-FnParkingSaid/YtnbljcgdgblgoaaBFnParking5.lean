/- A part of the proof of FnParking. -/
import Derived.Test.YtnbljcgdgblgoaaBFnParking4
import Derived.Test.YtnbljcgdgblgoaaBFnParking3
import Derived.Test.YtnbljcgdgblgoaaBFnParking0
import Derived.Test.YtnbljcgdgblgoaaBFnParking1
import Derived.Test.YtnbljcgdgblgoaaBFnParking2
import Derived.Deep.LoopGhost
import Derived.Deep.Slices
import Derived.Lib.SmallJoins
import Derived.ChangeSame
import Derived.Test.YtnbljcgdgblgoaaRows
import Derived.JoinedOf
import Derived.KernelRfl
set_option linter.unusedVariables false
set_option linter.unusedSimpArgs false
set_option maxRecDepth 100000
section
namespace Go.Proofs.Ytnbljcgdgblgoaa.Cf
open Go.RowKit Go.Proofs.YtnbljcgdgblgoaaW.PrintWords Go.Proofs.Ytnbljcgdgblgoaa.P
structure WS where
 b:Nat
 lost:List Int
 tk:List Bool
 T:List Int
 F:List Int
def aFb (es:List E) (D:Nat→Nat→Int→Bool) (s:WS) (i:Nat):WS :=
 if D i (otherE es s.b i) (s.lost.getD (otherE es s.b i) 0)=true then ⟨s.b ||| 2^otherE es s.b i,s.lost,s.tk.set i true,s.T++[(i:Int)],s.F.set (otherE es s.b i) (s.lost.getD (otherE es s.b i) 0)⟩
 else ⟨s.b,s.lost.set (otherE es s.b i) (s.lost.getD (otherE es s.b i) 0+1),s.tk.set i true,s.T,s.F⟩
def wlk (es:List E) (D:Nat→Nat→Int→Bool):Nat→WS→WS
 | 0,s=>s
 | d+1,s=>match nextE es s.tk s.b es.length 0 with
  | none=>s
  | some i=>wlk es D d (aFb es D s i)
theorem aE1 {es:List E} {D:Nat→Nat→Int→Bool} {d:Nat} {s:WS} (h:nextE es s.tk s.b es.length 0=none):wlk es D (d+1) s=s:=by rw[wlk,h]
theorem aE0 {es:List E} {D:Nat→Nat→Int→Bool} {d i:Nat} {s:WS} (h:nextE es s.tk s.b es.length 0=some i):wlk es D (d+1) s=wlk es D d (aFb es D s i):=by rw[wlk,h]
structure WOk (n:Nat) (es:List E) (s:WS):Prop where
 tl:s.tk.length=es.length
 ll:s.lost.length=n
 fl:s.F.length=n
section
variable {n:Nat} {es:List E} {D:Nat→Nat→Int→Bool}
theorem WOk.step {s:WS} (h:WOk n es s) (i:Nat):WOk n es (aFb es D s i):=by
 unfold aFb
 split
 ·exact⟨by rw[List.length_set];exact h.tl,h.ll,by rw[List.length_set];exact h.fl⟩
 ·exact⟨by rw[List.length_set];exact h.tl,by rw[List.length_set];exact h.ll,h.fl⟩
theorem aEz (hes:∀ e∈es,EOk n e) {s:WS} {i:Nat} (h:nextE es s.tk s.b es.length 0=some i):i<es.length∧s.tk.getD i true=false∧otherE es s.b i<n∧s.b.testBit (otherE es s.b i)=false:=by
 obtain⟨_,h1,h2,h3⟩:=aEu h
 have hi:i<es.length:=by omega
 obtain⟨h4,h5,_⟩:=aNm hes hi h3
 exact⟨hi,h2,h4,h5⟩
theorem aGm (s:WS) (i:Nat):(aFb es D s i).tk=s.tk.set i true:=by unfold aFb;split<;>rfl
theorem aPm {s:WS} {i v:Nat} (h:s.b.testBit v=true):(aFb es D s i).b.testBit v=true:=by
 unfold aFb
 split
 ·exact aM3 h
 ·exact h
theorem getD_set_ne {l:List Int} {i j:Nat} (x:Int) (h:i≠j):(l.set i x).getD j 0=l.getD j 0:=by
 rw[List.getD_eq_getElem?_getD,List.getD_eq_getElem?_getD,List.getElem?_set_ne h]
theorem aDd {l:List Int} {i:Nat} (x:Int) (h:i<l.length):(l.set i x).getD i 0=x:=by
 rw[List.getD_eq_getElem?_getD,List.getElem?_set_self h]
 rfl
theorem aGy (hes:∀ e∈es,EOk n e) {v:Nat}:∀ (d:Nat) {s:WS},s.b.testBit v=true→(wlk es D d s).F.getD v 0=s.F.getD v 0∧(wlk es D d s).b.testBit v=true
 | 0,s,h=>⟨rfl,h⟩
 | d+1,s,h=>by
  cases hn:nextE es s.tk s.b es.length 0 with
  | none=>rw[aE1 hn];exact⟨rfl,h⟩
  | some i =>
   rw[aE0 hn]
   obtain⟨h1,h2⟩:=aGy hes d (aPm (D:=D) (i:=i) h)
   refine⟨h1.trans ?_,h2⟩
   obtain⟨_,_,_,h5⟩:=aEz hes hn
   have hne:otherE es s.b i≠v:=fun e=>by rw[e,h]at h5;cases h5
   unfold aFb
   split
   ·exact getD_set_ne _ hne
   ·rfl
theorem aEl (s:WS) (i:Nat) (h:D i (otherE es s.b i) (s.lost.getD (otherE es s.b i) 0)=true):aFb es D s i=⟨s.b ||| 2^otherE es s.b i,s.lost,s.tk.set i true,s.T++[(i:Int)],s.F.set (otherE es s.b i) (s.lost.getD (otherE es s.b i) 0)⟩:=by
 unfold aFb
 rw[if_pos h]
theorem aJ8 {D2:Nat→Nat→Int→Bool} {s:WS} {i:Nat} (h:D2 i (otherE es s.b i) (s.lost.getD (otherE es s.b i) 0)=D i (otherE es s.b i) (s.lost.getD (otherE es s.b i) 0)):aFb es D2 s i=aFb es D s i:=by
 unfold aFb
 rw[h]
theorem aF0 (s:WS) (i:Nat) (h:¬ D i (otherE es s.b i) (s.lost.getD (otherE es s.b i) 0)=true):aFb es D s i=⟨s.b,s.lost.set (otherE es s.b i) (s.lost.getD (otherE es s.b i) 0+1),s.tk.set i true,s.T,s.F⟩:=by
 unfold aFb
 rw[if_neg h]
theorem aN0 (hes:∀ e∈es,EOk n e) {v:Nat} (hv:v<n):∀ (d:Nat) {s:WS},WOk n es s→s.b.testBit v=false→(wlk es D d s).b.testBit v=true→s.lost.getD v 0≤(wlk es D d s).F.getD v 0
 | 0,s,_,h,h2=>by rw[wlk,h]at h2;cases h2
 | d+1,s,hok,h,h2=>by
  cases hn:nextE es s.tk s.b es.length 0 with
  | none=>rw[aE1 hn,h]at h2;cases h2
  | some i =>
   rw[aE0 hn]at h2 ⊢
   have hok2:=hok.step (D:=D) i
   by_cases c:D i (otherE es s.b i) (s.lost.getD (otherE es s.b i) 0)=true
   ·have hs:=aEl (D:=D) s i c
    by_cases e:otherE es s.b i=v
    ·have h3:=(aGy (D:=D) hes d (s:=aFb es D s i) (v:=v) (by rw[hs];show (s.b ||| 2^otherE es s.b i).testBit v=true;rw[e];exact aGk _ _)).1
     rw[h3,hs]
     show _≤(s.F.set (otherE es s.b i) (s.lost.getD (otherE es s.b i) 0)).getD v 0
     rw[e,aDd _ (by rw[hok.fl];exact hv)]
     exact Int.le_refl _
    ·have h3:=aN0 hes hv d hok2 (by rw[hs];show (s.b ||| 2^otherE es s.b i).testBit v=false;rw[Nat.testBit_or,h,Nat.testBit_two_pow,Bool.false_or];exact decide_eq_false e) h2
     rw[hs]at h3 ⊢
     exact h3
   ·have hs:=aF0 (D:=D) s i c
    have h3:=aN0 hes hv d hok2 (by rw[hs];exact h) h2
    refine Int.le_trans ?_ h3
    rw[hs]
    show _≤(s.lost.set (otherE es s.b i) (s.lost.getD (otherE es s.b i) 0+1)).getD v 0
    by_cases e:otherE es s.b i=v
    ·rw[e,aDd _ (by rw[hok.ll];exact hv)]
     omega
    ·rw[getD_set_ne _ e]
     exact Int.le_refl _
theorem aWu (hes:∀ e∈es,EOk n e):∀ (d:Nat) {s:WS},WOk n es s→(∀ v,v<n→(wlk es D d s).b.testBit v=true)→wlk es (fun _ o l=>decide ((wlk es D d s).F.getD o 0≤l)) d s=wlk es D d s
 | 0,s,_,_=>rfl
 | d+1,s,hok,hall=>by
  cases hn:nextE es s.tk s.b es.length 0 with
  | none=>rw[aE1 hn,aE1 hn]
  | some i =>
   rw[aE0 hn]at hall ⊢
   rw[aE0 hn]
   obtain⟨_,_,h4,h5⟩:=aEz hes hn
   have hok2:=hok.step (D:=D) i
   have ih:=aWu hes d hok2 hall
   have hdec:decide ((wlk es D d (aFb es D s i)).F.getD (otherE es s.b i) 0≤s.lost.getD (otherE es s.b i) 0)=D i (otherE es s.b i) (s.lost.getD (otherE es s.b i) 0):=by
    by_cases c:D i (otherE es s.b i) (s.lost.getD (otherE es s.b i) 0)=true
    ·have hs:=aEl (D:=D) s i c
     have h3:=(aGy (D:=D) hes d (s:=aFb es D s i) (v:=otherE es s.b i) (by rw[hs];exact aGk _ _)).1
     rw[c,h3,hs]
     refine decide_eq_true ?_
     show (s.F.set (otherE es s.b i) (s.lost.getD (otherE es s.b i) 0)).getD (otherE es s.b i) 0≤_
     rw[aDd _ (by rw[hok.fl];exact h4)]
     exact Int.le_refl _
    ·have hs:=aF0 (D:=D) s i c
     have h3:=aN0 (D:=D) hes h4 d hok2 (by rw[hs];exact h5) (hall _ h4)
     rw[hs]at h3
     have h6:s.lost.getD (otherE es s.b i) 0+1≤(wlk es D d (aFb es D s i)).F.getD (otherE es s.b i) 0:=by
      have h7:(s.lost.set (otherE es s.b i) (s.lost.getD (otherE es s.b i) 0+1)).getD (otherE es s.b i) 0=s.lost.getD (otherE es s.b i) 0+1:=aDd _ (by rw[hok.ll];exact h4)
      rw[hs]
      exact Int.le_trans (Int.le_of_eq h7.symm) h3
     rw[Bool.not_eq_true]at c
     rw[c]
     exact decide_eq_false (by omega)
   have hstep:aFb es (fun _ o l=>decide ((wlk es D d (aFb es D s i)).F.getD o 0≤l)) s i=aFb es D s i:=by
    exact aJ8 hdec
   rw[hstep]
   exact ih
theorem aXw:∀ (d:Nat) {s:WS} {x:Int},x∈s.T→x∈(wlk es D d s).T
 | 0,_,_,h=>h
 | d+1,s,x,h=>by
  cases hn:nextE es s.tk s.b es.length 0 with
  | none=>rw[aE1 hn];exact h
  | some i =>
   rw[aE0 hn]
   refine aXw d ?_
   unfold aFb
   split
   ·exact List.mem_append.2 (Or.inl h)
   ·exact h
theorem aZr {i:Nat}:∀ (d:Nat) {s:WS},s.tk.length=es.length→s.tk.getD i true=true→(i:Int)∉s.T→(i:Int)∉(wlk es D d s).T
 | 0,_,_,_,h=>h
 | d+1,s,hl,ht,h=>by
  cases hn:nextE es s.tk s.b es.length 0 with
  | none=>rw[aE1 hn];exact h
  | some j =>
   rw[aE0 hn]
   obtain⟨_,_,h2,_⟩:=aEu hn
   have hne:i≠j:=fun e=>by rw[e,h2]at ht;cases ht
   refine aZr d (by rw[aGm,List.length_set];exact hl) ?_ ?_
   ·rw[aGm,List.getD_eq_getElem?_getD,List.getElem?_set_ne (fun e=>hne e.symm),← List.getD_eq_getElem?_getD]
    exact ht
   ·unfold aFb
    split
    ·intro h3
     rcases List.mem_append.1 h3 with h3|h3
     ·exact h h3
     ·have:=List.mem_singleton.1 h3
      omega
    ·exact h
theorem aWt:∀ (d:Nat) {s:WS},s.tk.length=es.length→(∀ x∈s.T,∃ j:Nat,x=(j:Int)∧s.tk.getD j true=true)→wlk es (fun i _ _=>decide ((i:Int)∈(wlk es D d s).T)) d s=wlk es D d s
 | 0,_,_,_=>rfl
 | d+1,s,hl,hT=>by
  cases hn:nextE es s.tk s.b es.length 0 with
  | none=>rw[aE1 hn,aE1 hn]
  | some i =>
   rw[aE0 hn,aE0 hn]
   obtain⟨_,h1,h2,_⟩:=aEu hn
   have hi:i<s.tk.length:=by omega
   have htk:∀ j,s.tk.getD j true=true→(s.tk.set i true).getD j true=true:=fun j hj=>by
    by_cases e:i=j
    ·subst e;rw[List.getD_eq_getElem?_getD,List.getElem?_set_self hi];rfl
    ·rw[List.getD_eq_getElem?_getD,List.getElem?_set_ne e,← List.getD_eq_getElem?_getD];exact hj
   have hti:(s.tk.set i true).getD i true=true:=by rw[List.getD_eq_getElem?_getD,List.getElem?_set_self hi];rfl
   have hT2:∀ x∈(aFb es D s i).T,∃ j:Nat,x=(j:Int)∧(aFb es D s i).tk.getD j true=true:=by
    intro x hx
    rw[aGm]
    unfold aFb at hx
    split at hx
    ·rcases List.mem_append.1 hx with hx|hx
     ·obtain⟨j,rfl,hj⟩:=hT x hx
      exact⟨j,rfl,htk j hj⟩
     ·exact⟨i,List.mem_singleton.1 hx,hti⟩
    ·obtain⟨j,rfl,hj⟩:=hT x hx
     exact⟨j,rfl,htk j hj⟩
   have ih:=aWt d (s:=aFb es D s i) (by rw[aGm,List.length_set];exact hl) hT2
   have hnot:(i:Int)∉s.T:=fun h=>by
    obtain⟨j,e,hj⟩:=hT _ h
    obtain rfl:i=j:=by omega
    rw[h2]at hj
    cases hj
   have hdec:decide ((i:Int)∈(wlk es D d (aFb es D s i)).T)=D i (otherE es s.b i) (s.lost.getD (otherE es s.b i) 0):=by
    by_cases c:D i (otherE es s.b i) (s.lost.getD (otherE es s.b i) 0)=true
    ·rw[c]
     refine decide_eq_true (aXw d ?_)
     rw[aEl (D:=D) s i c]
     exact List.mem_append.2 (Or.inr List.mem_cons_self)
    ·have h3:(i:Int)∉(wlk es D d (aFb es D s i)).T:=by
      refine aZr d (by rw[aGm,List.length_set];exact hl) (by rw[aGm];exact hti) ?_
      rw[aF0 (D:=D) s i c]
      exact hnot
     rw[Bool.not_eq_true]at c
     rw[c]
     exact decide_eq_false h3
   have hstep:aFb es (fun k _ _=>decide ((k:Int)∈(wlk es D d (aFb es D s i)).T)) s i=aFb es D s i:=by
    exact aJ8 hdec
   rw[hstep]
   exact ih
end
end Go.Proofs.Ytnbljcgdgblgoaa.Cf
end
section
namespace Go.Proofs.Ytnbljcgdgblgoaa.Cf
open Go.RowKit Go.Proofs.YtnbljcgdgblgoaaW.PrintWords Go.Proofs.Ytnbljcgdgblgoaa.P
def aEx (v:Nat) (e:E):Bool:=(e.f0==(v:Int))||(e.f1==(v:Int))
def cT (es:List E) (tk:List Bool) (v:Nat):Nat:=(List.range es.length).countP fun i=>tk.getD i true&&aEx v (es.getD i ⟨0,0⟩)
def cX (es:List E) (b v:Nat):Nat:=es.countP fun e=>aEx v e&&crossE b e
theorem aGa {P Q:Nat→Bool} {i:Nat}:∀ l:List Nat,l.Nodup→i∈l→(∀ j∈l,j≠i→Q j=P j)→P i=false→Q i=true→l.countP Q=l.countP P+1
 | [],_,h,_,_,_=>absurd h List.not_mem_nil
 | a::l,hn,h,hj,hp,hq=>by
  rw[List.countP_cons,List.countP_cons]
  by_cases e:a=i
  ·subst e
   have hni:=(List.nodup_cons.1 hn).1
   have h2:l.countP Q=l.countP P:=List.countP_congr fun x hx=>by rw[hj x (List.mem_cons_of_mem _ hx) (fun e=>hni (e▸hx))]
   rw[h2,hp,hq]
   rfl
  ·have h3:i∈l:=(List.mem_cons.1 h).resolve_left (fun x=>e x.symm)
   have h2:=aGa l (List.nodup_cons.1 hn).2 h3 (fun j hm=>hj j (List.mem_cons_of_mem _ hm)) hp hq
   rw[h2,hj a List.mem_cons_self e]
   omega
theorem aHo (es:List E) (P:E→Bool):(List.range es.length).countP (fun i=>P (es.getD i ⟨0,0⟩))=es.countP P:=by
 have e:es=(List.range es.length).map fun i=>es.getD i ⟨0,0⟩:=by
  refine List.ext_getElem (by simp) fun i h1 h2=>?_
  rw[List.getElem_map,List.getElem_range,List.getD_eq_getElem?_getD,List.getElem?_eq_getElem h1]
  rfl
 have h:es.countP P=((List.range es.length).map fun i=>es.getD i ⟨0,0⟩).countP P:=congrArg (List.countP P) e
 rw[h,List.countP_map]
 rfl
theorem aGe {tk:List Bool} {i j:Nat} (h:i<tk.length):(tk.set i true).getD j true=if i=j then true else tk.getD j true:=by
 rw[List.getD_eq_getElem?_getD,List.getD_eq_getElem?_getD]
 by_cases c:i=j
 ·subst c
  rw[if_pos rfl,List.getElem?_set_self h]
  rfl
 ·rw[if_neg c,List.getElem?_set_ne c]
theorem aT9 {es:List E} {tk:List Bool} {i v:Nat} (hi:i<es.length) (hl:tk.length=es.length) (h:tk.getD i true=false) (ht:aEx v (es.getD i ⟨0,0⟩)=true):cT es (tk.set i true) v=cT es tk v+1:=by
 unfold cT
 refine aGa (i:=i) _ List.nodup_range (List.mem_range.2 hi) ?_ ?_ ?_
 ·intro j _ hj
  rw[aGe (by omega),if_neg (fun e=>hj e.symm)]
 ·rw[h];rfl
 ·rw[aGe (by omega),if_pos rfl,ht];rfl
theorem aQv {es:List E} {tk:List Bool} {i v:Nat} (hi:i<es.length) (hl:tk.length=es.length) (ht:aEx v (es.getD i ⟨0,0⟩)=false):cT es (tk.set i true) v=cT es tk v:=by
 unfold cT
 refine List.countP_congr fun j _=>?_
 rw[aGe (by omega)]
 by_cases c:i=j
 ·subst c
  rw[ht,Bool.and_false,Bool.and_false]
 ·rw[if_neg c]
theorem aZ6 {es:List E} {tk:List Bool} {b v:Nat} (h:∀ i,i<es.length→tk.getD i true=true→aEx v (es.getD i ⟨0,0⟩)=true→crossE b (es.getD i ⟨0,0⟩)=true):cT es tk v≤cX es b v:=by
 unfold cT cX
 rw[← aHo es]
 refine List.countP_mono_left fun i hi h2=>?_
 rw[Bool.and_eq_true]at h2 ⊢
 exact⟨h2.2,h i (List.mem_range.1 hi) h2.1 h2.2⟩
theorem aZ5 {es:List E} {tk:List Bool} {b v:Nat} (h:∀ i,i<es.length→crossE b (es.getD i ⟨0,0⟩)=true→tk.getD i true=true):cX es b v≤cT es tk v:=by
 unfold cT cX
 rw[← aHo es]
 refine List.countP_mono_left fun i hi h2=>?_
 rw[Bool.and_eq_true]at h2 ⊢
 exact⟨h i (List.mem_range.1 hi) h2.2,h2.1⟩
theorem aQ8 {n:Nat} {b v:Nat} (hv:b.testBit v=false) (hvn:v<n) {P:Int→Bool} (hP:∀ x:Int,0≤x→x<n→P x = !b.testBit x.toNat):∀ {es:List E},(∀ e∈es,EOk n e)→lap es (ind P) (v:Int)=(cX es b v:Int)
 | [],_=>rfl
 | e::es,hes=>by
  have ih:=aQ8 hv hvn hP (fun x hx=>hes x (List.mem_cons_of_mem _ hx))
  have he:=hes e List.mem_cons_self
  unfold EOk at he
  have h0:=hP e.f0 he.1 (by omega)
  have h1:=hP e.f1 (by omega) he.2.2
  rw[aK1,ih]
  unfold cX
  rw[List.countP_cons,Int.natCast_add,Int.add_comm]
  congr 1
  unfold aJc ind aEx crossE
  rw[h0,h1]
  by_cases a:e.f0=(v:Int)
  ·have c:¬ e.f1=(v:Int):=by omega
   have a2:e.f0.toNat=v:=by omega
   rw[if_pos a,if_neg c,a2,hv,beq_iff_eq.2 a]
   cases b.testBit e.f1.toNat<;>rfl
  ·by_cases c:e.f1=(v:Int)
   ·have c2:e.f1.toNat=v:=by omega
    rw[if_neg a,if_pos c,c2,hv,beq_iff_eq.2 c]
    cases b.testBit e.f0.toNat<;>simp
   ·rw[if_neg a,if_neg c,beq_eq_false_iff_ne.2 a,beq_eq_false_iff_ne.2 c]
    rfl
theorem aM2 {n:Nat} {es:List E} (hes:∀ e∈es,EOk n e) {b i v:Nat} (hi:i<es.length) (hc:crossE b (es.getD i ⟨0,0⟩)=true) (hb:b.testBit v=false) (ht:aEx v (es.getD i ⟨0,0⟩)=true):v=otherE es b i:=by
 have he:=hes _ (List.getElem_mem hi)
 unfold EOk at he
 unfold otherE
 rw[aPx hi]at hc ht ⊢
 unfold aEx at ht
 unfold crossE at hc
 rw[Bool.or_eq_true,beq_iff_eq,beq_iff_eq]at ht
 rcases ht with ht|ht
 ·have h2:es[i].f0.toNat=v:=by omega
  rw[h2,hb,if_neg (by simp)]
 ·have h2:es[i].f1.toNat=v:=by omega
  rw[h2,hb]at hc
  rw[if_pos (by simpa using hc),h2]
theorem aIf {n:Nat} {es:List E} (hes:∀ e∈es,EOk n e) {b i:Nat} (hi:i<es.length):aEx (otherE es b i) (es.getD i ⟨0,0⟩)=true:=by
 have he:=hes _ (List.getElem_mem hi)
 unfold EOk at he
 unfold otherE aEx
 rw[aPx hi]
 rw[Bool.or_eq_true,beq_iff_eq,beq_iff_eq]
 split
 ·right;omega
 ·left;omega
theorem aOt {b o v:Nat} {n:Nat} {e:E} (he:EOk n e) (hc:crossE b e=true) (ht:aEx v e=true) (hb:(b ||| 2^o).testBit v=false):crossE (b ||| 2^o) e=true:=by
 have hb2:b.testBit v=false:=by
  rw[Nat.testBit_or,Bool.or_eq_false_iff]at hb
  exact hb.1
 unfold EOk at he
 unfold aEx at ht
 unfold crossE at hc ⊢
 rw[Bool.or_eq_true,beq_iff_eq,beq_iff_eq]at ht
 rcases ht with ht|ht
 ·have h2:e.f0.toNat=v:=by omega
  rw[h2,hb2]at hc
  rw[h2,hb,aM3 (by simpa using hc)]
  rfl
 ·have h2:e.f1.toNat=v:=by omega
  rw[h2,hb2]at hc
  rw[h2,hb,aM3 (by simpa using hc)]
  rfl
structure aVi (n:Nat) (es:List E) (s:WS):Prop where
 ok:WOk n es s
 cnt:∀ v,v<n→s.b.testBit v=false→s.lost.getD v 0=(cT es s.tk v:Int)
 crs:∀ i,i<es.length→s.tk.getD i true=true→∀ v,v<n→s.b.testBit v=false→aEx v (es.getD i ⟨0,0⟩)=true→crossE s.b (es.getD i ⟨0,0⟩)=true
theorem aU8 {b o v:Nat} (h:(b ||| 2^o).testBit v=false):b.testBit v=false∧v≠o:=by
 refine⟨?_,fun e=>by rw[e,aGk]at h;cases h⟩
 rw[Nat.testBit_or,Bool.or_eq_false_iff]at h
 exact h.1
section
variable {n:Nat} {es:List E} {D:Nat→Nat→Int→Bool}
theorem aVi.step (hes:∀ e∈es,EOk n e) {s:WS} (h:aVi n es s) {i:Nat} (hn:nextE es s.tk s.b es.length 0=some i):aVi n es (aFb es D s i):=by
 obtain⟨_,_,hti,hc⟩:=aEu hn
 obtain⟨hi,_,h4,h5⟩:=aEz hes hn
 have hok:=h.ok.step (D:=D) i
 have htl:=h.ok.tl
 have hll:=h.ok.ll
 have notouch:∀ v,s.b.testBit v=false→v≠otherE es s.b i→aEx v (es.getD i ⟨0,0⟩)=false:=fun v hv hne=>by
  cases ht:aEx v (es.getD i ⟨0,0⟩) with
  | false=>rfl
  | true=>exact absurd (aM2 hes hi hc hv ht) hne
 by_cases c:D i (otherE es s.b i) (s.lost.getD (otherE es s.b i) 0)=true
 ·have hs:=aEl (D:=D) s i c
  refine⟨hok,?_,?_⟩
  ·rw[hs]
   intro v hv hb
   obtain⟨b1,b2⟩:=aU8 hb
   show s.lost.getD v 0=(cT es (s.tk.set i true) v:Int)
   rw[aQv hi htl (notouch v b1 b2)]
   exact h.cnt v hv b1
  ·rw[hs]
   intro j hj htk v hv hb ht
   obtain⟨b1,b2⟩:=aU8 hb
   have htk2:(s.tk.set i true).getD j true=true:=htk
   rw[aGe (by omega)]at htk2
   by_cases e:i=j
   ·subst e
    rw[notouch v b1 b2]at ht
    cases ht
   ·rw[if_neg e]at htk2
    refine aOt (hes _ ?_) (h.crs j hj htk2 v hv b1 ht) ht hb
    rw[aPx hj]
    exact List.getElem_mem hj
 ·have hs:=aF0 (D:=D) s i c
  refine⟨hok,?_,?_⟩
  ·rw[hs]
   intro v hv hb
   show (s.lost.set (otherE es s.b i) (s.lost.getD (otherE es s.b i) 0+1)).getD v 0=(cT es (s.tk.set i true) v:Int)
   by_cases e:otherE es s.b i=v
   ·rw[← e,aDd _ (by omega),aT9 hi htl hti (aIf hes hi),h.cnt _ h4 h5]
    omega
   ·rw[getD_set_ne _ e,aQv hi htl (notouch v hb (fun x=>e x.symm))]
    exact h.cnt v hv hb
  ·rw[hs]
   intro j hj htk v hv hb ht
   have htk2:(s.tk.set i true).getD j true=true:=htk
   rw[aGe (by omega)]at htk2
   by_cases e:i=j
   ·subst e
    exact hc
   ·rw[if_neg e]at htk2
    exact h.crs j hj htk2 v hv hb ht
theorem aJr (hes:∀ e∈es,EOk n e) {S:Int→Bool}:∀ (d:Nat) {s:WS},aVi n es s→(∀ x:Int,S x=true→0≤x→x<n→s.b.testBit x.toNat=false)→(∃ v:Nat,v<n∧S v=true)→(∀ v,v<n→(wlk es D d s).b.testBit v=true)→∃ v:Nat,v<n∧S v=true∧(wlk es D d s).F.getD v 0<lap es (ind S) (v:Int)
 | 0,s,_,hS,⟨v,hv,hx⟩,hall=>by
  have h1:=hS (v:Int) hx (by omega) (by omega)
  rw[Int.toNat_natCast]at h1
  have h2:s.b.testBit v=true:=hall v hv
  rw[h1]at h2
  cases h2
 | d+1,s,hI,hS,⟨v,hv,hx⟩,hall=>by
  cases hn:nextE es s.tk s.b es.length 0 with
  | none =>
   rw[aE1 hn]at hall
   have h1:=hS (v:Int) hx (by omega) (by omega)
   rw[Int.toNat_natCast,hall v hv]at h1
   cases h1
  | some i =>
   rw[aE0 hn]at hall ⊢
   obtain⟨_,_,hti,hc⟩:=aEu hn
   obtain⟨hi,_,h4,h5⟩:=aEz hes hn
   have hI2:=hI.step (D:=D) hes hn
   by_cases c:D i (otherE es s.b i) (s.lost.getD (otherE es s.b i) 0)=true
   ·have hs:=aEl (D:=D) s i c
    by_cases e:S (otherE es s.b i:Int)=true
    ·refine⟨otherE es s.b i,h4,e,?_⟩
     have h3:=(aGy (D:=D) hes d (s:=aFb es D s i) (v:=otherE es s.b i) (by rw[hs];exact aGk _ _)).1
     have h6:(aFb es D s i).F.getD (otherE es s.b i) 0=s.lost.getD (otherE es s.b i) 0:=by
      rw[hs]
      exact aDd _ (by rw[hI.ok.fl];exact h4)
     rw[h3,h6,hI.cnt _ h4 h5]
     have h7:cT es (s.tk.set i true) (otherE es s.b i)≤cX es s.b (otherE es s.b i):=by
      refine aZ6 fun j hj htk ht=>?_
      rw[aGe (by rw[hI.ok.tl];exact hi)]at htk
      by_cases e2:i=j
      ·subst e2;exact hc
      ·rw[if_neg e2]at htk
       exact hI.crs j hj htk _ h4 h5 ht
     rw[aT9 hi hI.ok.tl hti (aIf hes hi)]at h7
     have h8:=aQ8 (P:=fun x => !(decide (0≤x∧x<(n:Int))&&s.b.testBit x.toNat)) h5 h4 (fun x h0 h1=>by rw[decide_eq_true ⟨h0,h1⟩,Bool.true_and]) hes
     have h9:=aHq (es:=es) (S:=S) (T:=fun x => !(decide (0≤x∧x<(n:Int))&&s.b.testBit x.toNat)) (v:=(otherE es s.b i:Int)) e (by simp[h5]) (fun x hx=>by
      by_cases r:0≤x∧x<(n:Int)
      ·rw[hS x hx r.1 r.2,Bool.and_false];rfl
      ·rw[decide_eq_false r];rfl)
     omega
    ·refine aJr hes d hI2 ?_ ⟨v,hv,hx⟩ hall
     intro x hx h0 h1
     rw[hs]
     show (s.b ||| 2^otherE es s.b i).testBit x.toNat=false
     rw[Nat.testBit_or,hS x hx h0 h1,Nat.testBit_two_pow,Bool.false_or]
     refine decide_eq_false fun e2=>e ?_
     rw[e2,Int.toNat_of_nonneg h0]
     exact hx
   ·have hs:=aF0 (D:=D) s i c
    refine aJr hes d hI2 ?_ ⟨v,hv,hx⟩ hall
    rw[hs]
    exact hS
end
end Go.Proofs.Ytnbljcgdgblgoaa.Cf
end
section
namespace Go.Proofs.Ytnbljcgdgblgoaa.Cf
open Go.RowKit Go.Proofs.YtnbljcgdgblgoaaW.PrintWords Go.Proofs.Ytnbljcgdgblgoaa.P
section
variable {n:Nat} {es:List E} {D:Nat→Nat→Int→Bool}
structure aOv (n:Nat) (p:List Int) (s:WS):Prop where
 le:∀ v,v<n→s.b.testBit v=false→s.lost.getD v 0≤p.getD v 0
 eq:∀ v,v<n→s.b.testBit v=true→s.F.getD v 0=p.getD v 0
def pD (p:List Int) (_ o:Nat) (l:Int):Bool:=decide (p.getD o 0≤l)
theorem aOv.step (hes:∀ e∈es,EOk n e) {p:List Int} {s:WS} (hok:WOk n es s) (h:aOv n p s) {i:Nat} (hn:nextE es s.tk s.b es.length 0=some i):aOv n p (aFb es (pD p) s i):=by
 obtain⟨hi,_,h4,h5⟩:=aEz hes hn
 have hfl:=hok.fl
 have hll:=hok.ll
 by_cases c:pD p i (otherE es s.b i) (s.lost.getD (otherE es s.b i) 0)=true
 ·have c2:p.getD (otherE es s.b i) 0≤s.lost.getD (otherE es s.b i) 0:=of_decide_eq_true c
  rw[aEl (D:=pD p) s i c]
  refine⟨fun v hv hb=>h.le v hv (aU8 hb).1,fun v hv hb=>?_⟩
  show (s.F.set (otherE es s.b i) (s.lost.getD (otherE es s.b i) 0)).getD v 0=_
  by_cases e:otherE es s.b i=v
  ·rw[e,aDd _ (by omega)]
   have:=h.le _ h4 h5
   rw[e]at this c2
   omega
  ·rw[getD_set_ne _ e]
   refine h.eq v hv ?_
   have hb2:(s.b ||| 2^otherE es s.b i).testBit v=true:=hb
   rw[Nat.testBit_or,Nat.testBit_two_pow,decide_eq_false e,Bool.or_false]at hb2
   exact hb2
 ·have c2:¬ p.getD (otherE es s.b i) 0≤s.lost.getD (otherE es s.b i) 0:=fun x=>c (decide_eq_true x)
  rw[aF0 (D:=pD p) s i c]
  refine⟨fun v hv hb=>?_,fun v hv hb=>h.eq v hv hb⟩
  show (s.lost.set (otherE es s.b i) (s.lost.getD (otherE es s.b i) 0+1)).getD v 0≤_
  by_cases e:otherE es s.b i=v
  ·rw[e,aDd _ (by omega)]
   rw[e]at c2
   omega
  ·rw[getD_set_ne _ e]
   exact h.le v hv hb
theorem aH2 {s:WS} (hok:WOk n es s) {i d:Nat} (hi:i<es.length) (ht:s.tk.getD i true=false) (hd:s.tk.count false=d+1):(aFb es D s i).tk.count false=d:=by
 rw[aGm]
 have:=count_set (tk:=s.tk) (i:=i) (by rw[hok.tl];exact hi) ht
 omega
theorem aEt {s:WS} (hok:WOk n es s) (hd:s.tk.count false=0):nextE es s.tk s.b es.length 0=none:=by
 cases hx:nextE es s.tk s.b es.length 0 with
 | none=>rfl
 | some i =>
  obtain⟨_,h2,h3,_⟩:=aEu hx
  have:=count_set (tk:=s.tk) (i:=i) (by rw[hok.tl];omega) h3
  omega
theorem aI9 {q:Int} (hq:0≤q∧q<n) (hes:∀ e∈es,EOk n e) {p:List Int} (hr:Red n es q (rd p)) {s:WS} (hI:aVi n es s) (hp:aOv n p s) (hb:s.b.testBit q.toNat=true) (hn:nextE es s.tk s.b es.length 0=none):∀ v,v<n→s.b.testBit v=true:=by
 intro v hv
 apply Classical.byContradiction
 intro hc
 obtain⟨w,h0,h1,h2,h3⟩:=hr.2 (fun x=>decide (0≤x∧x<(n:Int)) && !s.b.testBit x.toNat) (by rw[hb,Bool.not_true,Bool.and_false]) ⟨(v:Int),by omega,by omega,by rw[Int.toNat_natCast,(Bool.not_eq_true _).mp hc,decide_eq_true (by omega)];rfl⟩
 obtain⟨w,rfl⟩:=Int.eq_ofNat_of_zero_le h0
 simp only[Int.ofNat_eq_natCast,Int.toNat_natCast,Bool.and_eq_true,Bool.not_eq_true']at h2
 have hwn:w<n:=by omega
 rw[aQ8 h2.2 hwn (fun x h0 h1=>by rw[decide_eq_true ⟨h0,h1⟩,Bool.true_and]) hes,aEh]at h3
 have h4:cX es s.b w≤cT es s.tk w:=aZ5 fun i hi hx=>by
  rcases aHf hn i (by omega) (by omega) with t|t
  ·exact t
  ·rw[hx]at t;cases t
 have h5:=hI.cnt w hwn h2.2
 have h6:=hp.le w hwn h2.2
 omega
theorem aPb {q:Int} (hq:0≤q∧q<n) (hes:∀ e∈es,EOk n e) {p:List Int} (hr:Red n es q (rd p)):∀ (d:Nat) {s:WS},s.tk.count false=d→aVi n es s→aOv n p s→s.b.testBit q.toNat=true→∀ v,v<n→(wlk es (pD p) d s).b.testBit v=true∧(wlk es (pD p) d s).F.getD v 0=p.getD v 0
 | 0,s,hd,hI,hp,hb,v,hv=>by
  have h:=aI9 hq hes hr hI hp hb (aEt hI.ok hd) v hv
  exact⟨h,hp.eq v hv h⟩
 | d+1,s,hd,hI,hp,hb,v,hv=>by
  cases hn:nextE es s.tk s.b es.length 0 with
  | none =>
   rw[aE1 hn]
   have h:=aI9 hq hes hr hI hp hb hn v hv
   exact⟨h,hp.eq v hv h⟩
  | some i =>
   rw[aE0 hn]
   obtain⟨hi,ht,_,_⟩:=aEz hes hn
   exact aPb hq hes hr d (aH2 hI.ok hi ht hd) (hI.step hes hn) (hp.step hes hI.ok hn) (aPm hb) v hv
theorem aMz (hes:∀ e∈es,EOk n e):∀ (d:Nat) {s:WS},WOk n es s→WOk n es (wlk es D d s)
 | 0,_,h=>h
 | d+1,s,h=>by
  cases hn:nextE es s.tk s.b es.length 0 with
  | none=>rw[aE1 hn];exact h
  | some i=>rw[aE0 hn];exact aMz hes d (h.step i)
structure aSr (n:Nat) (es:List E) (q:Int) (s:WS):Prop where
 mem:∀ x∈s.T,∃ j:Nat,x=(j:Int)∧s.tk.getD j true=true
 rng:∀ x∈s.T,0≤x∧x<es.length
 nd:s.T.Nodup
 cnt:s.T.length+1=(List.range n).countP fun v=>s.b.testBit v
 con:∀ v:Nat,v<n→s.b.testBit v=true→aFe (aCf es s.T) q (v:Int)
theorem aSr.step (hes:∀ e∈es,EOk n e) {q:Int} {s:WS} (hok:WOk n es s) (h:aSr n es q s) {i:Nat} (hn:nextE es s.tk s.b es.length 0=some i):aSr n es q (aFb es D s i):=by
 obtain⟨_,_,hti,hc⟩:=aEu hn
 obtain⟨hi,_,h4,h5⟩:=aEz hes hn
 have htl:=hok.tl
 have htk:∀ j,s.tk.getD j true=true→(s.tk.set i true).getD j true=true:=fun j hj=>by
  rw[aGe (by omega)]
  split
  ·rfl
  ·exact hj
 by_cases c:D i (otherE es s.b i) (s.lost.getD (otherE es s.b i) 0)=true
 ·rw[aEl (D:=D) s i c]
  refine⟨?_,?_,?_,?_,?_⟩
  ·intro x hx
   show ∃ j:Nat,x=(j:Int)∧(s.tk.set i true).getD j true=true
   rcases List.mem_append.1 hx with hx|hx
   ·obtain⟨j,e,hj⟩:=h.mem x hx
    exact⟨j,e,htk j hj⟩
   ·exact⟨i,List.mem_singleton.1 hx,by rw[aGe (by omega),if_pos rfl]⟩
  ·intro x hx
   rcases List.mem_append.1 hx with hx|hx
   ·exact h.rng x hx
   ·rw[List.mem_singleton.1 hx]
    omega
  ·show (s.T++[(i:Int)]).Nodup
   rw[List.nodup_append]
   refine⟨h.nd,by simp,fun a ha b hb=>?_⟩
   rw[List.mem_singleton.1 hb]
   rintro rfl
   obtain⟨j,e,hj⟩:=h.mem _ ha
   have e2:i=j:=by omega
   rw[← e2,hti]at hj
   cases hj
  ·show (s.T++[(i:Int)]).length+1=_
   rw[List.length_append,List.length_singleton,h.cnt]
   refine(aGa (i:=otherE es s.b i) _ List.nodup_range (List.mem_range.2 h4) ?_ h5 (aGk _ _)).symm
   intro j _ hj
   show (s.b ||| 2^otherE es s.b i).testBit j=_
   rw[Nat.testBit_or,Nat.testBit_two_pow,decide_eq_false (fun e=>hj e.symm),Bool.or_false]
  ·intro v hv hb
   show aFe (aCf es (s.T++[(i:Int)])) q (v:Int)
   have hsub:∀ e∈aCf es s.T,e∈aCf es (s.T++[(i:Int)]):=fun e he=>by
    unfold aCf at he ⊢
    rw[List.map_append]
    exact List.mem_append_left _ he
   by_cases e:otherE es s.b i=v
   ·have he:=hes _ (List.getElem_mem hi)
    unfold EOk at he
    have hmem:es[i]∈aCf es (s.T++[(i:Int)]):=by
     unfold aCf
     rw[List.map_append]
     refine List.mem_append_right _ (List.mem_singleton.2 ?_)
     show es[i]=es.getD (i:Int).toNat ⟨0,0⟩
     rw[Int.toNat_natCast,aPx hi]
    rw[aPx hi]at hc
    unfold crossE at hc
    unfold otherE at e
    rw[aPx hi]at e
    by_cases t:s.b.testBit es[i].f0.toNat=true
    ·rw[if_pos t]at e
     have h6:=h.con es[i].f0.toNat (by omega) t
     rw[Int.toNat_of_nonneg he.1]at h6
     exact(h6.sub hsub).tail ⟨es[i],hmem,Or.inl ⟨rfl,by omega⟩⟩
    ·rw[if_neg t]at e
     rw[(Bool.not_eq_true _).mp t]at hc
     have h6:=h.con es[i].f1.toNat (by omega) (by simpa using hc)
     rw[Int.toNat_of_nonneg (show 0≤es[i].f1 by omega)]at h6
     exact(h6.sub hsub).tail ⟨es[i],hmem,Or.inr ⟨by omega,rfl⟩⟩
   ·have hb2:(s.b ||| 2^otherE es s.b i).testBit v=true:=hb
    rw[Nat.testBit_or,Nat.testBit_two_pow,decide_eq_false e,Bool.or_false]at hb2
    exact(h.con v hv hb2).sub hsub
 ·rw[aF0 (D:=D) s i c]
  refine⟨?_,h.rng,h.nd,h.cnt,h.con⟩
  intro x hx
  obtain⟨j,e,hj⟩:=h.mem x hx
  exact⟨j,e,htk j hj⟩
theorem aTm (hes:∀ e∈es,EOk n e) {q:Int}:∀ (d:Nat) {s:WS},WOk n es s→aSr n es q s→aSr n es q (wlk es D d s)
 | 0,_,_,h=>h
 | d+1,s,hok,h=>by
  cases hn:nextE es s.tk s.b es.length 0 with
  | none=>rw[aE1 hn];exact h
  | some i=>rw[aE0 hn];exact aTm hes d (hok.step i) (h.step hes hok hn)
theorem aZq {P:Int→Prop} (hD:∀ i o l,D i o l=true→P (i:Int)):∀ (d:Nat) {s:WS},(∀ x∈s.T,P x)→∀ x∈(wlk es D d s).T,P x
 | 0,_,h=>h
 | d+1,s,h=>by
  cases hn:nextE es s.tk s.b es.length 0 with
  | none=>rw[aE1 hn];exact h
  | some i =>
   rw[aE0 hn]
   refine aZq hD d ?_
   by_cases c:D i (otherE es s.b i) (s.lost.getD (otherE es s.b i) 0)=true
   ·rw[aEl (D:=D) s i c]
    intro x hx
    rcases List.mem_append.1 hx with hx|hx
    ·exact h x hx
    ·rw[List.mem_singleton.1 hx]
     exact hD _ _ _ c
   ·rw[aF0 (D:=D) s i c]
    exact h
theorem aN5 {q:Int} {s:WS} (h:aSr n es q s) (ha:∀ v,v<n→s.b.testBit v=true):s.T.length+1=n:=by
 rw[h.cnt,List.countP_eq_length.2 fun v hv=>ha v (List.mem_range.1 hv),List.length_range]
theorem aMq {u t:List Int} (h:∀ x∈t,x∈u):∀ e∈aCf es t,e∈aCf es u:=by
 intro e he
 unfold aCf at he ⊢
 obtain⟨x,hx,rfl⟩:=List.mem_map.1 he
 exact List.mem_map.2 ⟨x,h x hx,rfl⟩
theorem aN3 {u:List Int} (h:u.Pairwise (·≤·)) (hn:u.Nodup):Up u u.length:=by
 intro j hj _
 have h1:=List.pairwise_iff_getElem.1 h j (j+1) (by omega) hj (by omega)
 have h2:=List.pairwise_iff_getElem.1 hn j (j+1) (by omega) hj (by omega)
 omega
theorem aTq {q:Int} (hq:0≤q∧q<n) (hg:GOk (n:Int) es) {s:WS} (h:aSr n es q s) (ha:∀ v,v<n→s.b.testBit v=true) {u:List Int} (hu:u.Perm s.T) (hs:u.Pairwise (·≤·)):aFl (n:Int) es u:=by
 have hl:=aN5 h ha
 have hul:=hu.length_eq
 refine⟨hg,by omega,fun j hj _=>h.rng _ (hu.subset (List.getElem_mem hj)),aN3 hs (hu.nodup_iff.2 h.nd),?_⟩
 have key:∀ v:Nat,v<n→aFe (aCf es u) q (v:Int):=fun v hv=>(h.con v hv (ha v hv)).sub (aMq fun x hx=>hu.symm.subset hx)
 intro v h0 h1
 have k0:=key 0 (by omega)
 have kv:=key v.toNat (by omega)
 rw[Int.toNat_of_nonneg h0]at kv
 exact k0.symm.trans kv
end
theorem aHd:∀ {u t:List Int},u.Pairwise (·<·)→t.Pairwise (·<·)→(∀ x∈u,x∈t)→u.Sublist t
 | u,[],_,_,h=>by
  cases u with
  | nil=>exact List.Sublist.refl _
  | cons a u=>exact absurd (h a List.mem_cons_self) List.not_mem_nil
 | [],c::t,_,_,_=>List.nil_sublist _
 | a::u,c::t,hu,ht,h=>by
  have hu2:=List.pairwise_cons.1 hu
  have ht2:=List.pairwise_cons.1 ht
  by_cases e:a=c
  ·subst e
   refine List.Sublist.cons_cons _ (aHd hu2.2 ht2.2 fun x hx=>?_)
   have:=hu2.1 x hx
   rcases List.mem_cons.1 (h x (List.mem_cons_of_mem _ hx)) with h2|h2
   ·omega
   ·exact h2
  ·have ha:a∈t:=(List.mem_cons.1 (h a List.mem_cons_self)).resolve_left e
   have hca:=ht2.1 a ha
   refine List.Sublist.cons _ (aHd hu ht2.2 fun x hx=>?_)
   rcases List.mem_cons.1 (h x hx) with h2|h2
   ·rcases List.mem_cons.1 hx with h3|h3
    ·omega
    ·have:=hu2.1 x h3
     omega
   ·exact h2
theorem aT1 {t:List Int} (h:Up t t.length):t.Pairwise (·<·):=by
 rw[List.pairwise_iff_getElem]
 have key:∀ (d i:Nat) (hi:i<t.length) (hj:i+(d+1)<t.length),t[i]<t[i+(d+1)]:=by
  intro d
  induction d with
  | zero=>intro i hi hj;exact h i hj hj
  | succ d ih =>
   intro i hi hj
   have h1:=ih i hi (by omega)
   have h2:=h (i+(d+1)) hj (by omega)
   exact Int.lt_trans h1 h2
 intro i j hi hj hij
 obtain⟨d,rfl⟩:∃ d,j=i+(d+1):=⟨j-i-1,by omega⟩
 exact key d i hi hj
theorem aTs {n:Nat} {es:List E} {q:Int} {s:WS} (h:aSr n es q s) (ha:∀ v,v<n→s.b.testBit v=true) {tree u:List Int} (ht:aFl (n:Int) es tree) (hT:∀ x∈s.T,x∈tree) (hu:u.Perm s.T) (hs:u.Pairwise (·≤·)):u=tree:=by
 obtain⟨_,h1,_,h2,_⟩:=ht
 have hl:=aN5 h ha
 have hul:=hu.length_eq
 refine(aHd (aT1 (aN3 hs (hu.nodup_iff.2 h.nd))) (aT1 h2) fun x hx=>hT x (hu.subset hx)).eq_of_length (by omega)
end Go.Proofs.Ytnbljcgdgblgoaa.Cf
end
section
namespace Go.Proofs.Ytnbljcgdgblgoaa.Cf
open Go.RowKit Go.Proofs.YtnbljcgdgblgoaaW.PrintWords Go.Proofs.Ytnbljcgdgblgoaa.P
theorem aMj (q:Int) (p:List Int) (hl:p.length≤1048576):∀ (d i:Nat),i+d=p.length→Ep (fun k=>aBs.l0 k q p (p.length:Int) (i:Int)) (·=aFn q p d i):=by
 intro d
 induction d with
 | zero =>
  intro i hi
  refine Ep.up ?_
  simp only[aBs.l0]
  exact Ep.neg (by omega) (Ep.now rfl)
 | succ d ih =>
  intro i hi
  refine Ep.up ?_
  simp only[aBs.l0]
  refine Ep.pos (by omega) (Ep.pos (by omega) (Ep.pos (by omega) ?_))
  rw[aBw (by omega)]
  unfold aFn
  refine Ep.ite (fun h=>?_) (fun h=>?_)
  ·rw[if_pos h]
   exact ih (i+1) (by omega)
  ·rw[if_neg h]
   refine Ep.ite (fun h2=>Ep.now ?_) (fun h2=>?_)
   ·rw[if_pos h2]
   ·rw[if_neg h2]
    exact ih (i+1) (by omega)
theorem aSf (p:List Int) (q:Int) (hl:p.length≤1048576):Ep (fun k=>aBs.f k p q) (·=aFn q p p.length 0):=by
 simp only[aBs.f]
 exact aMj q p hl p.length 0 (by omega)
def aW8 (n:Nat) (es:List E) (q:Int) (d:List Int) (t:Int→Int):Prop:=aLn n es q (aZp es (rd d)) t
theorem aW8.zero {n:Nat} {es:List E} {q:Int} {d:List Int}:aW8 n es q d (fun _=>0):=aLn.zero
theorem aW8.step {n:Nat} {es:List E} {q:Int} {d:List Int} {t:Int→Int} (h:aW8 n es q d t) {v:Int} (h0:0≤v) (h1:v<n) (hv:v≠q) (hd:rd d v+lap es t v<0):aW8 n es q d (fun w=>t w+one v 1 w) :=
 aLn.step h h0 h1 hv (by unfold aZp;omega)
structure Sec (n:Nat) (es:List E) (q:Int) (d:List Int) (t u:Int→Int):Prop where
 ow:aW8 n es q d t
 sets:aW7 n es q (fun v=>rd d v+lap es t v) u
theorem Sec.done {n:Nat} {es:List E} {q:Int} (g:Gr n es q) {d:List Int} {t u:Int→Int} (h:Sec n es q d t u) {s x:List Int} (hs:Rep n s (fun w=>u w-t w)) (hx:Rep n x (fun w=>rd d w+lap es t w-lap es u w)) {b:List Int} (hbu:aKe n es (rd x) q b) (hl:b.length=n):aR3 n es q d (x,s):=by
 refine⟨hx.1,hs.1,hbu.red g.hes g.hq hl (fun v v0 v1 v2=>?_),?_,fun v v0 v1=>?_⟩
 ·rw[hx.2 v v0 v1]
  exact h.sets.keeps v v0 v1 v2
 ·have e:rd s q=u q-t q:=hs.2 q g.hq.1 g.hq.2
  show rd s q=0
  rw[e,h.sets.at_q,h.ow.nonneg.2]
  rfl
 ·have e:rd x v=rd d v+lap es t v-lap es u v:=hx.2 v v0 v1
  show rd x v=rd d v-lap es (rd s) v
  rw[e,aQ7 g.hes (t:=fun w=>u w-t w) hs.2,aMb]
  omega
end Go.Proofs.Ytnbljcgdgblgoaa.Cf
end
section
namespace Go.Proofs.Ytnbljcgdgblgoaa.P
open Go.RowKit Go.Proofs.YtnbljcgdgblgoaaW.PrintWords Go.Proofs.YtnbljcgdgblgoaaW.PrintLast Go.Proofs.YtnbljcgdgblgoaaW.PrintMore
attribute [local go_sem] aCt aCr aDb aDa aCa aC9 aCs aCq
def aDm.l0:Nat→Int→List Int→Int→Int→Option (Int)
 | 0,_,_,_,_=>none
 | k+1,x3,x6,x7,x8=>if x8<x7 then(if 0≤x8 then(if x8<(x6.length:Int) then(aDm.l0 k (wrap64 (x3+(rd x6 x8))) x6 x7 (wrap64 (x8+1))) else(none)) else(none)) else(some x3)
def aDm.f (k:Nat) (l0:List Int):Option (Int):=aDm.l0 k 0 l0 (l0.length:Int) 0
theorem aDm.mono_l:∀ k,(∀ y0 y1 y2 y3,LeO (aDm.l0 k y0 y1 y2 y3) (aDm.l0 (k+1) y0 y1 y2 y3))
 | 0=>fun _ _ _ _ r h=>by simp[aDm.l0]at h
 | k+1=>by
  have ih0:=aDm.mono_l k
  ·intro y0 y1 y2 y3
   unfold aDm.l0
   exact zm0
theorem aDm.mono:∀ a0 k,LeO (aDm.f k a0) (aDm.f (k+1) a0):=by
 intro a0 k;have ih0:=aDm.mono_l k;unfold aDm.f;exact zm0
def aD1.l0:Nat→Int→List Int→Int→Int→Option (Int)
 | 0,_,_,_,_=>none
 | k+1,x3,x6,x7,x8=>if x8<x7 then(if 0≤x8 then(if x8<(x6.length:Int) then(aD1.l0 k (wrap64 (x3+(rd x6 x8))) x6 x7 (wrap64 (x8+1))) else(none)) else(none)) else(some x3)
def aD1.f (k:Nat) (l0:List Int):Option (Int):=aD1.l0 k 0 l0 (l0.length:Int) 0
theorem aD1.mono_l:∀ k,(∀ y0 y1 y2 y3,LeO (aD1.l0 k y0 y1 y2 y3) (aD1.l0 (k+1) y0 y1 y2 y3))
 | 0=>fun _ _ _ _ r h=>by simp[aD1.l0]at h
 | k+1=>by
  have ih0:=aD1.mono_l k
  ·intro y0 y1 y2 y3
   unfold aD1.l0
   exact zm0
theorem aD1.mono:∀ a0 k,LeO (aD1.f k a0) (aD1.f (k+1) a0):=by
 intro a0 k;have ih0:=aD1.mono_l k;unfold aD1.f;exact zm0
end Go.Proofs.Ytnbljcgdgblgoaa.P
end
section
namespace Go.Proofs.Ytnbljcgdgblgoaa.Cf
open Go.RowKit Go.Proofs.YtnbljcgdgblgoaaW.PrintWords Go.Proofs.Ytnbljcgdgblgoaa.P
def Mod (l:List Int):Prop:=∀ x∈l,-1000000000≤x∧x≤1000000000
end Go.Proofs.Ytnbljcgdgblgoaa.Cf
end
section
namespace Go.Proofs.Ytnbljcgdgblgoaa.Cf
open Go.RowKit Go.Proofs.YtnbljcgdgblgoaaW.PrintWords
theorem aUu {n:Int} {es:List E} {d:List Int} (h:dOk n es d=true):∃ m:Nat,n=m∧(∀ q:Int,0≤q→q<n→Gr m es q)∧1≤m∧m≤6∧d.length=m∧Bd d 60∧Mod d:=by
 obtain⟨h1,h2,h3⟩:=aK7.1 h
 obtain⟨m,rfl⟩:=Int.eq_ofNat_of_zero_le (a:=n) (by omega)
 have hg:=h1.1
 unfold EsOk at hg
 exact⟨m,rfl,fun q q0 q1=>Gr.of h1 ⟨q0,q1⟩,by omega,by omega,by omega,Bd.of60 h3,fun x hx=>by have:=h3 x hx;omega⟩
end Go.Proofs.Ytnbljcgdgblgoaa.Cf
end
section
namespace Go.Proofs.Ytnbljcgdgblgoaa.P
open Go.RowKit Go.Proofs.YtnbljcgdgblgoaaW.PrintWords Go.Proofs.YtnbljcgdgblgoaaW.PrintLast Go.Proofs.YtnbljcgdgblgoaaW.PrintMore
attribute [local go_sem] aCt aCr aDb aDa aCa aC9 aCs aCq
mutual
def aBt.j0:Nat→Int→Bool→Int→List (S57)→Option (List Int)
 | 0,_,_,_,_=>none
 | k+1,x1,lZ,aT,aM=>if lZ=true then(some ([]:List Int)) else(aBt.l0 k x1 (([]:List Int)) 0 aT aM)
def aBt.l0:Nat→Int→List Int→Int→Int→List (S57)→Option (List Int)
 | 0,_,_,_,_,_=>none
 | k+1,x1,x5,x6,aT,aM=>if x6<aT then(if x6=x1 then(if x5.length<17592186044416 then(aBt.l0 k x1 (x5++[0]) (wrap64 (x6+1)) aT aM) else(none)) else((aBb.f k aT aM x6).bind fun gW=>(if x5.length<17592186044416 then(aBt.l0 k x1 (x5++[wrap64 (gW-1)]) (wrap64 (x6+1)) aT aM) else(none)))) else(some x5)
end
def aBt.f (k:Nat) (aD:Int) (aC:List (S57)) (a1:Int):Option (List Int):=(aAi.f k aD aC).bind fun aW=>(if aW=true then((aBx.f a1 0 (wrap64 (aD-1))).bind fun bH=>(aBt.j0 k a1 (!bH) aD aC)) else(aBt.j0 k a1 true aD aC))
theorem aBt.mono_l:∀ k,(∀ y0 y1 y2 y3,LeO (aBt.j0 k y0 y1 y2 y3) (aBt.j0 (k+1) y0 y1 y2 y3))∧(∀ y0 y1 y2 y3 y4,LeO (aBt.l0 k y0 y1 y2 y3 y4) (aBt.l0 (k+1) y0 y1 y2 y3 y4))
 | 0=>⟨fun _ _ _ _ r h=>by simp[aBt.j0]at h,fun _ _ _ _ _ r h=>by simp[aBt.l0]at h⟩
 | k+1=>by
  obtain⟨ih0,ih1⟩:=aBt.mono_l k
  refine⟨?_,?_⟩
  ·intro y0 y1 y2 y3
   unfold aBt.j0
   exact aYv
  ·intro y0 y1 y2 y3 y4
   unfold aBt.l0
   exact aYv
theorem aBt.mono:∀ a0 a1 a2 k,LeO (aBt.f k a0 a1 a2) (aBt.f (k+1) a0 a1 a2):=by
 intro a0 a1 a2 k;obtain⟨ih0,ih1⟩:=aBt.mono_l k;unfold aBt.f;exact aYv
end Go.Proofs.Ytnbljcgdgblgoaa.P
end
section
namespace Go.Proofs.Ytnbljcgdgblgoaa.P
open Go.RowKit Go.Proofs.YtnbljcgdgblgoaaW.PrintWords Go.Proofs.YtnbljcgdgblgoaaW.PrintLast Go.Proofs.YtnbljcgdgblgoaaW.PrintMore
attribute [local go_sem] aCt aCr aDb aDa aCa aC9 aCs aCq
def aCx.l0:Nat→Int→List Int→Int→Int→Int→List (S57)→Option (List Int)
 | 0,_,_,_,_,_,_=>none
 | k+1,x1,x5,mW,k6,aT,aM=>if k6<mW then(if k6=x1 then(aCx.l0 k x1 x5 mW (wrap64 (k6+1)) aT aM) else((aAv.f k aT aM k6).bind fun cJ=>(if 0≤k6 then(if k6<(x5.length:Int) then(aCx.l0 k x1 (x5.set (k6:Int).toNat (wrap64 (cJ-1))) mW (wrap64 (k6+1)) aT aM) else(none)) else(none)))) else(some x5)
def aCx.f (k:Nat) (aD:Int) (aC:List (S57)) (a1:Int):Option (List Int):=(aCk.f aD aC a1).bind fun aW=>(if aW=true then(if 0≤aD then(if(aD:Int).toNat≤35184372088832 then((some (List.replicate (aD:Int).toNat 0:List Int)).bind fun l5=>(aCx.l0 k a1 l5 (l5.length:Int) 0 aD aC)) else(none)) else(none)) else(some ([]:List Int)))
theorem aCx.mono_l:∀ k,(∀ y0 y1 y2 y3 y4 y5,LeO (aCx.l0 k y0 y1 y2 y3 y4 y5) (aCx.l0 (k+1) y0 y1 y2 y3 y4 y5))
 | 0=>fun _ _ _ _ _ _ r h=>by simp[aCx.l0]at h
 | k+1=>by
  have ih0:=aCx.mono_l k
  ·intro y0 y1 y2 y3 y4 y5
   unfold aCx.l0
   exact aZe
theorem aCx.mono:∀ a0 a1 a2 k,LeO (aCx.f k a0 a1 a2) (aCx.f (k+1) a0 a1 a2):=by
 intro a0 a1 a2 k;have ih0:=aCx.mono_l k;unfold aCx.f;exact aZe
def aDw.l0:Nat→List Int→List Int→Int→Int→Option (List Int)
 | 0,_,_,_,_=>none
 | k+1,x1,x5,fH,f4=>if f4<fH then(if 0≤f4 then(if f4<(x5.length:Int) then(if f4<(x1.length:Int) then(aDw.l0 k x1 (x5.set (f4:Int).toNat (wrap64 ((rd x5 f4)+(rd x1 f4)))) fH (wrap64 (f4+1))) else(none)) else(none)) else(none)) else(some x5)
def aDw.f (k:Nat) (l0:List Int) (l1:List Int):Option (List Int):=(aDj.f l0).bind fun bY=>(aDw.l0 k l1 bY (bY.length:Int) 0)
theorem aDw.mono_l:∀ k,(∀ y0 y1 y2 y3,LeO (aDw.l0 k y0 y1 y2 y3) (aDw.l0 (k+1) y0 y1 y2 y3))
 | 0=>fun _ _ _ _ r h=>by simp[aDw.l0]at h
 | k+1=>by
  have ih0:=aDw.mono_l k
  ·intro y0 y1 y2 y3
   unfold aDw.l0
   exact zm0
theorem aDw.mono:∀ a0 a1 k,LeO (aDw.f k a0 a1) (aDw.f (k+1) a0 a1):=by
 intro a0 a1 k;have ih0:=aDw.mono_l k;unfold aDw.f;exact zm0
def aCi.l0:Nat→List Int→List Int→List Int→Int→Int→Option (List Int)
 | 0,_,_,_,_,_=>none
 | k+1,x1,x5,x9,fH,f4=>if f4<fH then(if 0≤f4 then(if f4<(x9.length:Int) then(if f4<(x1.length:Int) then(if x5.length<17592186044416 then(aCi.l0 k x1 (x5++[wrap64 ((rd x9 f4)-(rd x1 f4))]) x9 fH (wrap64 (f4+1))) else(none)) else(none)) else(none)) else(none)) else(some x5)
def aCi.f (k:Nat) (l0:List Int) (l1:List Int):Option (List Int):=aCi.l0 k l1 (([]:List Int)) l0 (l0.length:Int) 0
theorem aCi.mono_l:∀ k,(∀ y0 y1 y2 y3 y4,LeO (aCi.l0 k y0 y1 y2 y3 y4) (aCi.l0 (k+1) y0 y1 y2 y3 y4))
 | 0=>fun _ _ _ _ _ r h=>by simp[aCi.l0]at h
 | k+1=>by
  have ih0:=aCi.mono_l k
  ·intro y0 y1 y2 y3 y4
   unfold aCi.l0
   exact zm0
theorem aCi.mono:∀ a0 a1 k,LeO (aCi.f k a0 a1) (aCi.f (k+1) a0 a1):=by
 intro a0 a1 k;have ih0:=aCi.mono_l k;unfold aCi.f;exact zm0
def aC4.l0:Nat→List Int→Int→Int→Option (List Int)
 | 0,_,_,_=>none
 | k+1,x3,x8,x9=>if x9<x8 then(if 0≤x9 then(if x9<(x3.length:Int) then(aC4.l0 k (x3.set (x9:Int).toNat (wrap64 (-(rd x3 x9)))) x8 (wrap64 (x9+1))) else(none)) else(none)) else(some x3)
def aC4.f (k:Nat) (l0:List Int):Option (List Int):=(aDj.f l0).bind fun bY=>(aC4.l0 k bY (bY.length:Int) 0)
theorem aC4.mono_l:∀ k,(∀ y0 y1 y2,LeO (aC4.l0 k y0 y1 y2) (aC4.l0 (k+1) y0 y1 y2))
 | 0=>fun _ _ _ r h=>by simp[aC4.l0]at h
 | k+1=>by
  have ih0:=aC4.mono_l k
  ·intro y0 y1 y2
   unfold aC4.l0
   exact zm0
theorem aC4.mono:∀ a0 k,LeO (aC4.f k a0) (aC4.f (k+1) a0):=by
 intro a0 k;have ih0:=aC4.mono_l k;unfold aC4.f;exact zm0
def aF7.f (k:Nat) (aD:Int) (aC:List (S57)) (l1:List Int) (a2:Int):Option (List Int):=(aBt.f k aD aC a2).bind fun aW=>((aCi.f k aW l1).bind fun dT=>(if 0≤a2 then(if a2<(dT.length:Int) then(some (dT.set (a2:Int).toNat 0)) else(none)) else(none)))
theorem aF7.mono:∀ a0 a1 a2 a3 k,LeO (aF7.f k a0 a1 a2 a3) (aF7.f (k+1) a0 a1 a2 a3):=by
 intro a0 a1 a2 a3 k;unfold aF7.f;repeat' first|(with_reducible apply aBt.mono)|(with_reducible apply aCi.mono)|(with_reducible exact LeO.refl _)|(with_reducible exact LeO.none _)|(with_reducible refine LeO.ite ?_ ?_)|(with_reducible refine LeO.bind ?_ (fun _=>?_))|apply aBt.mono|apply aCi.mono|exact LeO.none _|refine LeO.ite ?_ ?_|refine LeO.bind ?_ (fun _=>?_)
end Go.Proofs.Ytnbljcgdgblgoaa.P
end
section
namespace Go.Proofs.Ytnbljcgdgblgoaa.Cf
open Go.RowKit Go.Proofs.YtnbljcgdgblgoaaW.PrintWords Go.Proofs.Ytnbljcgdgblgoaa.P
def bOk (n:Int) (es:List E) (d:List Int) (q:Int):Bool:=dOk n es d&&decide (0≤q∧q<n)
def bfO (n:Int) (es:List E) (d:List Int) (q:Int):List Int×Bool:=if bOk n es d q=true then(aHw n.toNat es (rd d) q,true) else([],false)
theorem aMt {n:Int} {es:List E} {d:List Int} {q:Int} (h:bOk n es d q=true):∃ m:Nat,n=m∧Gr m es q∧GOk (m:Int) es∧d.length=m∧Bd d 60:=by
 unfold bOk at h
 rw[Bool.and_eq_true,decide_eq_true_eq]at h
 have hg:=(aK7.1 h.1).1
 obtain⟨m,rfl,g,_,_,hl,hb,_⟩:=aUu h.1
 exact⟨m,rfl,g q h.2.1 h.2.2,hg,hl,hb⟩
theorem aV3 {m:Nat} {es:List E} {d:List Int} {q:Int} (h:bOk m es d q=true):bfO m es d q=(aHw m es (rd d) q,true):=by
 unfold bfO
 rw[if_pos h]
 rfl
theorem aV4 {n:Int} {es:List E} {d:List Int} {q:Int}:(bfO n es d q).2=bOk n es d q:=by
 unfold bfO
 cases bOk n es d q<;>rfl
theorem aXe (n:Int) (es:List E) (d:List Int) (q:Int) (hn:Wf .i64 n) (hl:d.length≤1048576):Ep (fun k=>aCy.f k n es d q) (·=bfO n es d q):=by
 simp only[aCy.f,bfO]
 refine Ep.bind (aUj n es d hl) ?_
 rintro _ rfl
 refine Ep.ite (fun h=>?_) (fun h=>Ep.now ?_)
 ·refine Ep.bind0 (aGs n es q hn) ?_
  have hgo:=gOk_iff.2 (aK7.1 h).1
  have e:(gOk n es&&decide (0≤q∧q<n))=bOk n es d q:=by unfold bOk;rw[hgo,h]
  rw[e]
  refine Ep.ite (fun h2=>?_) (fun h2=>Ep.now (by rw[if_neg h2]))
  obtain⟨m,rfl,g,_,hdl,_⟩:=aMt h2
  refine Ep.bind (aNt g d hdl) ?_
  rintro _ rfl
  exact Ep.now (by rw[if_pos h2];rfl)
 ·have:bOk n es d q=false:=by
   unfold bOk
   have:dOk n es d=false:=by simpa using h
   rw[this]
   rfl
  rw[this]
  rfl
def aW5 (n:Int) (es:List E) (d:List Int) (q:Int):Bool:=if bOk n es d q=true then(if aFn q d d.length 0<0 then((bfO n es d q).1.length:Int)==n else false) else false
theorem aSe (n:Int) (es:List E) (d:List Int) (q:Int) (hn:Wf .i64 n) (hl:d.length≤1048576):Ep (fun k=>aCw.f k n es d q) (·=aW5 n es d q):=by
 simp only[aCw.f,aW5]
 refine Ep.bind (aXe n es d q hn hl) ?_
 rintro _ rfl
 rw[aV4]
 refine Ep.ite (fun h=>?_) (fun h=>Ep.now (by rw[if_neg h]))
 rw[if_pos h]
 refine Ep.bind (aSf d q hl) ?_
 rintro _ rfl
 refine Ep.ite (fun h2=>Ep.now ?_) (fun h2=>Ep.now ?_)
 ·rw[if_pos h2]
 ·rw[if_neg h2]
theorem aNi {n:Int} {es:List E} {d:List Int} {q:Int} (h:aW5 n es d q=true):bOk n es d q=true:=by
 apply Classical.byContradiction
 intro hc
 unfold aW5 at h
 rw[if_neg hc]at h
 cases h
def aKy (n:Int) (es:List E) (d:List Int) (q:Int):Bool:=if aW5 n es d q=true then rd d q == -1 else false
theorem aNr (n:Int) (es:List E) (d:List Int) (q:Int) (hn:Wf .i64 n) (hl:d.length≤1048576):Ep (fun k=>aCc.f k n es d q) (·=aKy n es d q):=by
 simp only[aCc.f,aKy]
 refine Ep.bind (aSe n es d q hn hl) ?_
 rintro _ rfl
 refine Ep.ite (fun h=>?_) (fun h=>Ep.now (by rw[if_neg h]))
 obtain⟨m,rfl,g,_,hdl,_⟩:=aMt (aNi h)
 have:=g.hq
 exact Ep.pos (by omega) (Ep.pos (by omega) (Ep.now (by rw[if_pos h])))
theorem aPz {n:Int} {es:List E} {d:List Int} {q:Int} (h:aKy n es d q=true):bOk n es d q=true:=by
 apply Classical.byContradiction
 intro hc
 unfold aKy at h
 split at h
 ·rename_i h2
  exact hc (aNi h2)
 ·cases h
theorem aWy {pre suf:List Int} {x:Int} (h:(pre++suf).Pairwise (·≤·)) (h1:∀ y∈suf,x≤y) (h2:∀ y∈pre,y≤x):(pre++x::suf).Pairwise (·≤·):=by
 rw[List.pairwise_append]at h ⊢
 refine⟨h.1,List.pairwise_cons.2 ⟨h1,h.2.1⟩,?_⟩
 intro a ha b hb
 rcases List.mem_cons.1 hb with rfl|hb
 ·exact h2 a ha
 ·exact h.2.2 a ha b hb
theorem aRv {pre suf:List Int} {p x:Int} (h:(pre++p::suf).Pairwise (·≤·)) (hp:p≤x):∀ y∈pre++[p],y≤x:=by
 intro y hy
 rw[List.pairwise_append]at h
 rcases List.mem_append.1 hy with hy|hy
 ·have:=h.2.2 y hy p List.mem_cons_self
  omega
 ·rw[List.mem_singleton.1 hy]
  exact hp
theorem aTz {l:List Int} {j:Nat} (h:l.length=j+1):∃ pre p,l=pre++[p]∧pre.length=j:=by
 refine⟨l.dropLast,l.getLast (by intro e;rw[e]at h;cases h),(List.dropLast_concat_getLast _).symm,by rw[List.length_dropLast];omega⟩
theorem aT3 (pre:List Int) (x:Int) (suf:List Int) {j:Nat} (h:pre.length=j):rd (pre++x::suf) (j:Int)=x:=by
 rw[aEh,List.getD_eq_getElem?_getD,List.getElem?_append_right (by omega),h,Nat.sub_self]
 rfl
theorem aPt (pre:List Int) (x y:Int) (suf:List Int) {j:Nat} (h:pre.length=j):(pre++x::suf).set j y=pre++y::suf:=by
 rw[List.set_append_right _ _ (by omega),h,Nat.sub_self]
 rfl
theorem aUa (a b:Int):aE4.f a b=some (decide (a<b)):=by simp[aE4.f,aBk.f]
theorem aUi {z rest:List Int} {x:Int} {N i:Nat} (hN:N≤100) (hz:z.length=i) (hi:i<100) (hs:z.Pairwise (·≤·)) (hlen:z.length+1+rest.length=N) {P:List Int→Prop}
  (hn:∀ y:List Int,y.Pairwise (·≤·)→y.Perm (x::z)→Ep (fun k=>aA1.l0 k (y++rest) 0 (N:Int) ((i+1:Nat):Int)) P) :
  ∀ (j:Nat) (pre suf:List Int),pre.length=j→pre++suf=z→(∀ y∈suf,x<y)→Ep (fun k=>aA1.l1 k (pre++x::(suf++rest)) 0 (N:Int) (i:Int) (j:Int)) P:=by
 intro j
 induction j with
 | zero =>
  intro pre suf hp hz2 hx
  obtain rfl:=List.length_eq_zero_iff.1 hp
  rw[List.nil_append]at hz2
  subst hz2
  refine Ep.up ?_
  simp only[aA1.l1]
  refine Ep.neg (by omega) ?_
  rw[aBw (by omega)]
  exact hn (x::suf) (List.pairwise_cons.2 ⟨fun y hy=>Int.le_of_lt (hx y hy),hs⟩) (List.Perm.refl _)
 | succ j ih =>
  intro pre suf hp hz2 hx
  obtain⟨pre,p,rfl,hj⟩:=aTz hp
  subst hz2
  have hjm:j+1<N:=by rw[← hlen];simp only[List.length_append,List.length_cons,List.length_nil];omega
  have e:wrap64 (((j+1:Nat):Int)-1)=(j:Int):=by rw[aC5 (by omega) (by omega)];omega
  have el:((pre++[p])++x::(suf++rest)).length=N:=by rw[← hlen];simp only[List.length_append,List.length_cons,List.length_nil];omega
  have hr:rd ((pre++[p])++x::(suf++rest)) (j:Int)=p:=by
   rw[List.append_assoc]
   exact aT3 pre p _ hj
  have hr1:rd ((pre++[p])++x::(suf++rest)) ((j+1:Nat):Int)=x:=aT3 _ x _ hp
  refine Ep.up ?_
  simp only[aA1.l1]
  rw[e,hr,hr1]
  refine Ep.pos (by omega) (Ep.pos (by omega) (Ep.pos (by omega) (Ep.pos (by omega) (Ep.pos (by omega) (Ep.bind0 (aUa x p) (Ep.ite (fun hlt=>?_) (fun hge=>?_)))))))
  ·have hlt2:x<p:=by simpa using hlt
   rw[Int.toNat_natCast,Int.toNat_natCast,aPt _ _ _ _ hp,List.append_assoc]
   show Ep (fun k=>aA1.l1 k ((pre++p::(p::(suf++rest))).set j x) 0 (N:Int) (i:Int) (j:Int)) P
   rw[aPt _ _ _ _ hj]
   refine ih pre (p::suf) hj (by rw[List.append_assoc];rfl) ?_
   intro y hy
   rcases List.mem_cons.1 hy with rfl|hy
   ·exact hlt2
   ·exact hx y hy
  ·have hge2:¬ x<p:=by simpa using hge
   rw[aBw (by omega)]
   have:=hn ((pre++[p])++x::suf) (aWy hs (fun y hy=>Int.le_of_lt (hx y hy)) (aRv (suf:=suf) (by rw[List.append_assoc]at hs;exact hs) (by omega))) List.perm_middle
   rw[List.append_assoc]at this
   exact this
theorem aMh {L:List Int} (hL:L.length≤100):∀ (d i:Nat) (z:List Int),i+d=L.length→0<i→z.Perm (L.take i)→z.Pairwise (·≤·)→Ep (fun k=>aA1.l0 k (z++L.drop i) 0 (L.length:Int) (i:Int)) (fun s=>s.Perm L∧s.Pairwise (·≤·)):=by
 intro d
 induction d with
 | zero =>
  intro i z hi h0 hz hs
  refine Ep.up ?_
  simp only[aA1.l0]
  rw[List.take_of_length_le (by omega)]at hz
  rw[List.drop_of_length_le (by omega),List.append_nil]
  exact Ep.neg (by omega) (Ep.now ⟨hz,hs⟩)
 | succ d ih =>
  intro i z hi h0 hz hs
  have hzl:z.length=i:=by rw[hz.length_eq,List.length_take];omega
  refine Ep.up ?_
  simp only[aA1.l0]
  refine Ep.pos (by omega) ?_
  rw[List.drop_eq_getElem_cons (show i<L.length by omega)]
  refine aUi (z:=z) (x:=L[i]) (rest:=L.drop (i+1)) (N:=L.length) hL hzl (by omega) hs (by rw[List.length_drop];omega) (fun y hy hp=>ih (i+1) y (by omega) (by omega) ?_ hy) i z [] hzl (List.append_nil z) (fun y hy=>absurd hy List.not_mem_nil)
  rw[List.take_succ_eq_append_getElem (by omega)]
  exact hp.trans ((List.Perm.cons _ hz).trans (List.perm_append_singleton _ _).symm)
theorem aSd (L:List Int) (hL:L.length≤100):Ep (fun k=>aA1.f k L 0 (L.length:Int)) (fun s=>s.Perm L∧s.Pairwise (·≤·)):=by
 simp only[aA1.f]
 rw[show wrap64 ((0:Int)+1)=((1:Nat):Int) from aBw (i:=0) (by omega)]
 cases L with
 | nil =>
  refine Ep.up ?_
  simp only[aA1.l0]
  exact Ep.neg (by simp) (Ep.now ⟨List.Perm.refl _,List.Pairwise.nil⟩)
 | cons a L =>
  have h:=aMh hL L.length 1 [a] (by rw[List.length_cons];omega) (by omega) (List.Perm.refl _) (List.pairwise_singleton _ _)
  exact h
def aT2 (l:List Int):List Int:=l.mergeSort (fun a b=>decide (a≤b))
theorem aH3 (l:List Int):(aT2 l).Perm l:=List.mergeSort_perm l _
theorem aJw (l:List Int):(aT2 l).Pairwise (·≤·):=by
 have h:=List.pairwise_mergeSort (le:=fun a b:Int=>decide (a≤b)) (fun a b c h1 h2=>by simp at *;omega) (fun a b=>by simp;omega) l
 exact h.imp (fun h=>by simpa using h)
theorem aTx {l s:List Int} (h1:s.Perm l) (h2:s.Pairwise (·≤·)):s=aT2 l :=
 List.Perm.eq_of_pairwise (fun a b _ _ h1 h2=>by omega) h2 (aJw l) (h1.trans (aH3 l).symm)
end Go.Proofs.Ytnbljcgdgblgoaa.Cf
end
section
namespace Go.Proofs.Ytnbljcgdgblgoaa.Cf
theorem aL5 {a b c:E} (h:leE a b) (k:leE b c):leE a c:=by
 unfold leE at *
 omega
theorem aHl {es:List E} (h:es.Pairwise leE):Sorted es:=fun i hi=>by
 rw[List.pairwise_iff_getElem]at h
 exact h i (i+1) (by omega) hi (by omega)
theorem aHp:∀ {es:List E},Sorted es→es.Pairwise leE
 | [],_=>List.Pairwise.nil
 | a::r,h=>by
  have hr:Sorted r:=fun i hi=>h (i+1) (by simpa using hi)
  have ih:=aHp hr
  refine List.Pairwise.cons (fun b hb=>?_) ih
  cases r with
  | nil=>cases hb
  | cons c s =>
   have h0:leE a c:=h 0 (by simp)
   rcases List.mem_cons.1 hb with rfl|hb
   ·exact h0
   ·exact aL5 h0 (List.rel_of_pairwise_cons ih hb)
def aLr (e:E):List E→List E
 | []=>[e]
 | x::r=>if x.f0>e.f0∨(x.f0=e.f0∧x.f1>e.f1) then e::x::r else x::aLr e r
theorem aI2 {e y:E}:∀ {l:List E},y∈aLr e l↔y=e∨y∈l
 | []=>by simp[aLr]
 | x::r=>by
  unfold aLr
  split
  ·simp
  ·rw[List.mem_cons,aI2 (l:=r),List.mem_cons]
   constructor
   ·rintro (h|h|h)
    ·exact .inr (.inl h)
    ·exact .inl h
    ·exact .inr (.inr h)
   ·rintro (h|h|h)
    ·exact .inr (.inl h)
    ·exact .inl h
    ·exact .inr (.inr h)
theorem aNp (e:E):∀ (l:List E),(aLr e l).length=l.length+1
 | []=>rfl
 | x::r=>by
  unfold aLr
  split
  ·simp
  ·simp[aNp e r]
theorem aQ9 {e:E}:∀ {l:List E},l.Pairwise leE→(aLr e l).Pairwise leE
 | [],_=>by simp[aLr]
 | x::r,h=>by
  unfold aLr
  have hx:=List.pairwise_cons.1 h
  split
  ·rename_i hc
   refine List.Pairwise.cons (fun b hb=>?_) h
   have h1:leE e x:=by unfold leE;omega
   rcases List.mem_cons.1 hb with rfl|hb
   ·exact h1
   ·exact aL5 h1 (hx.1 b hb)
  ·rename_i hc
   refine List.Pairwise.cons (fun b hb=>?_) (aQ9 hx.2)
   rcases aI2.1 hb with rfl|hb
   ·unfold leE;omega
   ·exact hx.1 b hb
theorem aUn {n:Int} {es:List E} (h:GOk n es) (hl:es.length≠12) {e:E} (he:EOk n e):GOk n (aLr e es):=by
 obtain⟨⟨h1,h2,h3,h4⟩,h5,h6⟩:=h
 refine⟨⟨h1,h2,by rw[aNp];omega,fun x hx=>?_⟩,aHl (aQ9 (aHp h5)),fun v h0 h1=>(h6 v h0 h1).sub fun x hx=>aI2.2 (.inr hx)⟩
 rcases aI2.1 hx with rfl|hx
 ·exact he
 ·exact h4 x hx
def aOo (t:List E) (n a:Nat):List E:=(List.range n).flatMap fun b=>if a<b then List.replicate (mult t a b).toNat ⟨a,b⟩ else []
def aG1 (n:Nat) (t:List E):List E:=(List.range n).flatMap (aOo t n)
theorem aI3 {t:List E} {n a:Nat} {e:E}:e∈aOo t n a↔∃ b,b<n∧a<b∧0<mult t a b∧e=⟨a,b⟩:=by
 unfold aOo
 rw[List.mem_flatMap]
 constructor
 ·rintro⟨b,hb,he⟩
  split at he
  ·rename_i hab
   obtain⟨h1,h2⟩:=List.mem_replicate.1 he
   exact⟨b,List.mem_range.1 hb,hab,by omega,h2⟩
  ·cases he
 ·rintro⟨b,hb,hab,hm,rfl⟩
  refine⟨b,List.mem_range.2 hb,?_⟩
  rw[if_pos hab]
  exact List.mem_replicate.2 ⟨by omega,rfl⟩
theorem aJf {t:List E} {n:Nat} {e:E}:e∈aG1 n t↔∃ a b:Nat,a<b∧b<n∧0<mult t a b∧e=⟨a,b⟩:=by
 unfold aG1
 rw[List.mem_flatMap]
 constructor
 ·rintro⟨a,_,h⟩
  obtain⟨b,h1,h2,h3,h4⟩:=aI3.1 h
  exact⟨a,b,h2,h1,h3,h4⟩
 ·rintro⟨a,b,h1,h2,h3,h4⟩
  exact⟨a,List.mem_range.2 (by omega),aI3.2 ⟨b,h2,h1,h3,h4⟩⟩
theorem aQi {t:List E} {n:Nat}:∀ e∈aG1 n t,EOk (n:Int) e:=by
 intro e he
 obtain⟨a,b,h1,h2,_,rfl⟩:=aJf.1 he
 unfold EOk
 simp only
 omega
theorem aQh (n:Nat) (t:List E):(aG1 n t).Pairwise leE:=by
 unfold aG1
 rw[List.pairwise_flatMap]
 refine⟨fun a _=>?_,?_⟩
 ·unfold aOo
  rw[List.pairwise_flatMap]
  refine⟨fun b _=>?_,?_⟩
  ·split
   ·refine List.pairwise_replicate.2 (.inr ?_)
    unfold leE
    simp
   ·exact List.Pairwise.nil
  ·refine List.pairwise_lt_range.imp ?_
   intro b c hbc x hx y hy
   split at hx
   ·split at hy
    ·rw[List.eq_of_mem_replicate hx,List.eq_of_mem_replicate hy]
     exact .inr ⟨rfl,by show (b:Int)≤(c:Int);omega⟩
    ·cases hy
   ·cases hx
 ·refine List.pairwise_lt_range.imp ?_
  intro a c hac x hx y hy
  obtain⟨_,_,_,_,rfl⟩:=aI3.1 hx
  obtain⟨_,_,_,_,rfl⟩:=aI3.1 hy
  unfold leE
  simp only
  omega
theorem aGr (f:Nat→List E):∀ n:Nat,(((List.range n).flatMap f).length:Int)=aEp n (fun i=>((f i).length:Int))
 | 0=>rfl
 | n+1=>by
  rw[List.range_succ,List.flatMap_append,List.length_append]
  simp only[aEp,List.flatMap_cons,List.flatMap_nil,List.append_nil]
  rw[← aGr f n]
  omega
theorem aOp {n:Nat}:∀ {t:List E},(∀ e∈t,EOk (n:Int) e)→(aG1 n t).length=t.length:=by
 have key:∀ t:List E,((aG1 n t).length:Int)=aEp n (fun a=>aEp n (fun b=>if a<b then mult t (a:Int) (b:Int) else 0)):=by
  intro t
  unfold aG1
  rw[aGr]
  apply aDg
  intro a _
  unfold aOo
  rw[aGr]
  apply aDg
  intro b _
  have:=aEe t (a:Int) (b:Int)
  split
  ·rw[List.length_replicate];omega
  ·rfl
 intro t
 induction t with
 | nil =>
  intro _
  have:=key []
  have hz:aEp n (fun a=>aEp n (fun b=>if a<b then mult [] (a:Int) (b:Int) else 0))=0:=by
   refine(aDg (g:=fun _=>0) fun a _=>?_).trans (aFa n)
   refine(aDg (g:=fun _=>0) fun b _=>?_).trans (aFa n)
   split<;>rfl
  rw[hz]at this
  simp only[List.length_nil]
  omega
 | cons e r ih =>
  intro h
  have ih:=ih fun x hx=>h x (List.mem_cons_of_mem _ hx)
  have he:=h e List.mem_cons_self
  unfold EOk at he
  have k1:=key (e::r)
  have k2:=key r
  have hs:aEp n (fun a=>aEp n (fun b=>if a<b then mult (e::r) (a:Int) (b:Int) else 0))=1+aEp n (fun a=>aEp n (fun b=>if a<b then mult r (a:Int) (b:Int) else 0)):=by
   have h1:aEp n (fun a=>aEp n (fun b=>if a=e.f0.toNat∧b=e.f1.toNat then (1:Int) else 0))=1:=by
    rw[aDg (g:=fun a=>if a=e.f0.toNat then (1:Int) else 0) (fun a _=>?_),aH0 e.f0.toNat (by omega)]
    by_cases ha:a=e.f0.toNat
    ·rw[if_pos ha,aDg (g:=fun b=>if b=e.f1.toNat then (1:Int) else 0) (fun b _=>by simp[ha]),aH0 e.f1.toNat (by omega)]
    ·rw[if_neg ha,aDg (g:=fun _=>(0:Int)) (fun b _=>by rw[if_neg (fun x=>ha x.1)]),aFa]
   rw[← h1,← aG7]
   apply aDg
   intro a _
   rw[← aG7]
   apply aDg
   intro b _
   have hm:mult (e::r) (a:Int) (b:Int)=aGp (a:Int) (b:Int) e+mult r (a:Int) (b:Int):=aDl _ _ _
   rw[hm]
   unfold aGp
   by_cases hab:a<b
   ·rw[if_pos hab,if_pos hab]
    by_cases hc:a=e.f0.toNat∧b=e.f1.toNat
    ·rw[if_pos hc,if_pos (.inl ⟨by omega,by omega⟩)]
    ·rw[if_neg hc,if_neg (by omega)]
   ·rw[if_neg hab,if_neg hab,if_neg (by omega)]
    rfl
  rw[List.length_cons]
  omega
structure aJ1 (v:Nat) (t:List E):Prop where
 ok:∀ e∈t,EOk (v:Int) e
 len:t.length+1=v
 up:∀ w:Nat,0<w→w<v→∃ a:Nat,a<w∧(⟨(a:Int),(w:Int)⟩:E)∈t
theorem aJ1.start:aJ1 1 []:=⟨fun e he=>(by cases he),rfl,fun w h0 h1=>by omega⟩
theorem aJ1.next {v:Nat} {t:List E} (h:aJ1 v t) {a:Int} (h0:0≤a) (h1:a<v):aJ1 (v+1) (t++[⟨a,v⟩]) where
 ok:=fun e he=>by
  rcases List.mem_append.1 he with he|he
  ·have:=h.ok e he
   unfold EOk at *
   omega
  ·rw[List.mem_singleton.1 he]
   unfold EOk
   simp only
   omega
 len:=by rw[List.length_append];simp;exact h.len
 up:=fun w w0 w1=>by
  by_cases c:w<v
  ·obtain⟨b,hb,hm⟩:=h.up w w0 c
   exact⟨b,hb,List.mem_append_left _ hm⟩
  ·obtain rfl:w=v:=by omega
   refine⟨a.toNat,by omega,List.mem_append_right _ ?_⟩
   have e:((a.toNat:Nat):Int)=a:=by omega
   rw[e]
   exact List.mem_singleton.2 rfl
theorem aJ1.gOk {n:Nat} {t:List E} (h:aJ1 n t) (hn:n≤6):GOk (n:Int) (aG1 n t):=by
 have hl:=aOp h.ok
 have hlen:=h.len
 refine⟨⟨by omega,by omega,by omega,aQi⟩,aHl (aQh n t),?_⟩
 have key:∀ w:Nat,w<n→aFe (aG1 n t) 0 (w:Int):=by
  intro w
  induction w using Nat.strongRecOn with
  | _ w ih =>
   intro hw
   by_cases w0:w=0
   ·subst w0;exact .refl
   ·obtain⟨a,ha,hm⟩:=h.up w (by omega) hw
    have hc:=ih a ha (by omega)
    have hmem:(⟨(a:Int),(w:Int)⟩:E)∈aG1 n t:=by
     refine aJf.2 ⟨a,w,ha,hw,?_,rfl⟩
     have h1:=aIb (es:=t) (f:=aGp (a:Int) (w:Int)) (fun e _=>by unfold aGp;split<;>omega) hm
     have h2:aGp (a:Int) (w:Int) ⟨(a:Int),(w:Int)⟩=1:=by unfold aGp;simp
     unfold mult
     omega
    exact hc.tail ⟨_,hmem,.inl ⟨rfl,rfl⟩⟩
 intro v h0 h1
 obtain⟨w,rfl⟩:=Int.eq_ofNat_of_zero_le h0
 exact key w (by omega)
end Go.Proofs.Ytnbljcgdgblgoaa.Cf
end
section
namespace Go.Proofs.Ytnbljcgdgblgoaa.Cf
open Go.RowKit Go.Proofs.YtnbljcgdgblgoaaW.PrintWords Go.Proofs.YtnbljcgdgblgoaaW.PrintMore Go.Proofs.Ytnbljcgdgblgoaa.P
def Cur (b:List Int) (i:Int):Prop:=0≤i∧i≤b.length
theorem aO2 (y:Int):0≤Go.bits .and .i64 y 255∧Go.bits .and .i64 y 255≤255:=by
 have h:((BitVec.ofInt 64 y) &&& (BitVec.ofInt 64 255)).toNat≤255:=by
  rw[BitVec.toNat_and]
  exact Nat.le_trans Nat.and_le_right (by decide)
 have e:Go.bits .and .i64 y 255=(((BitVec.ofInt 64 y) &&& (BitVec.ofInt 64 255)).toNat:Int):=by
  show Go.IntKind.wrap .i64 _=_
  have e0:∀ m:Nat,m≤255→Go.IntKind.wrap .i64 (m:Int)=m:=by
   intro m hm
   exact(aGw m (by omega) (by omega))
  exact e0 _ h
 rw[e]
 omega
theorem aG3 {b:List Int} (hb:b.length≤1048576) {i:Int} (h:Int) (hc:Cur b i):∃ x i' h',aBy.f b i h=some (x,i',h')∧0≤x∧x≤255∧Cur b i':=by
 unfold Cur at *
 unfold aBy.f
 split
 ·rw[if_pos hc.1]
  exact⟨_,_,_,rfl,(aO2 _).1,(aO2 _).2,by rw[aC5 (by omega) (by omega)];omega⟩
 ·exact⟨_,_,_,rfl,(aO2 _).1,(aO2 _).2,hc⟩
theorem aGc {b:List Int} (hb:b.length≤1048576) {i:Int} (h:Int) (hc:Cur b i) {a:Int} (h0:1≤a) (h1:a≤256):∃ x i' h',aBj.f b i h a=some (x,i',h')∧0≤x∧x<a∧Cur b i':=by
 obtain⟨x,i',h',e,x0,x1,hc'⟩:=aG3 hb h hc
 refine⟨Int.tmod x a,i',h',?_,Int.tmod_nonneg _ x0,Int.tmod_lt_of_pos _ (by omega),hc'⟩
 unfold aBj.f
 rw[if_neg (by omega),if_pos h1,e]
 show (if a=0 then none else some _)=_
 rw[if_neg (by omega)]
theorem aXi (b:List Int) (hb:b.length≤1048576):∀ (d i:Nat) (h:Int),i+d=b.length→Ep (fun k=>aBg.l0 k b h (i:Int)) (fun r=>r.1=b∧Cur b r.2.1):=by
 intro d
 induction d with
 | zero =>
  intro i h hi
  refine Ep.up ?_
  simp only[aBg.l0]
  exact Ep.neg (by omega) (Ep.now ⟨rfl,by unfold Cur;simp⟩)
 | succ d ih =>
  intro i h hi
  refine Ep.up ?_
  simp only[aBg.l0]
  refine Ep.pos (by omega) (Ep.ite (fun _=>Ep.pos (by omega) ?_) (fun _=>Ep.now ⟨rfl,by unfold Cur;simp⟩))
  rw[aBw (by omega)]
  exact ih (i+1) _ (by omega)
theorem aQq (b:List Int) (hb:b.length≤1048576):Ep (fun k=>aBg.f k b) (fun r=>r.1=b∧Cur b r.2.1):=by
 simp only[aBg.f]
 exact aXi b hb b.length 0 _ (by omega)
theorem aUv (b:List Int) (hb:b.length≤1048576) (n:Nat) (hn:n≤1000):∀ (d j:Nat) (i h:Int),j+d=n→Cur b i→Ep (fun k=>aBr.l0 k (n:Int) (j:Int) b i h) (fun r=>r.1=b∧Cur b r.2.1):=by
 intro d
 induction d with
 | zero =>
  intro j i h hj hc
  refine Ep.up ?_
  simp only[aBr.l0]
  exact Ep.neg (by omega) (Ep.now ⟨rfl,hc⟩)
 | succ d ih =>
  intro j i h hj hc
  obtain⟨x,i',h',e,_,_,hc'⟩:=aG3 hb h hc
  refine Ep.up ?_
  simp only[aBr.l0]
  refine Ep.pos (by omega) (Ep.bind0 e ?_)
  rw[aBw (by omega)]
  exact ih (j+1) i' h' (by omega) hc'
theorem aSm (b:List Int) (hb:b.length≤1048576) (n:Nat) (hn:n≤1000):Ep (fun k=>aBr.f k b (n:Int)) (fun r=>r.1=b∧Cur b r.2.1):=by
 simp only[aBr.f]
 refine Ep.bind (aQq b hb) ?_
 rintro⟨b',i,h⟩ ⟨rfl,hc⟩
 exact aUv _ hb n hn n 0 i h (by omega) hc
theorem aQ5 (b:List Int) (hb:b.length≤1048576) (n:Nat) (hn:n≤1000):Ep (fun k=>aD5.f k b (n:Int)) (fun r=>0≤r∧r≤65535):=by
 simp only[aD5.f]
 refine Ep.bind (aSm b hb n hn) ?_
 rintro⟨b',i,h⟩ ⟨rfl,hc⟩
 obtain⟨x,i1,h1,e1,x0,x1,hc1⟩:=aG3 hb h hc
 refine Ep.bind0 e1 ?_
 obtain⟨y,i2,h2,e2,y0,y1,hc2⟩:=aG3 hb h1 hc1
 refine Ep.bind0 e2 (Ep.now ?_)
 dsimp only
 rw[aC5 (x:=x*256) (by omega) (by omega),aC5 (by omega) (by omega)]
 omega
theorem aR2 (es:List E) (hel:es.length≤12) (n:Int) (e:E):∀ (d i:Nat) (acc:List E),i+d=es.length→acc.length≤i+1→Ep (fun k=>aAp.l0 k true es (es.length:Int) (i:Int) e.f0 e.f1 n acc) (·=(n,acc++es.drop i,true)):=by
 intro d
 induction d with
 | zero =>
  intro i acc hi ha
  refine Ep.up ?_
  simp only[aAp.l0]
  refine Ep.neg (by omega) (Ep.pos trivial (Ep.now ?_))
  rw[List.drop_of_length_le (by omega),List.append_nil]
 | succ d ih =>
  intro i acc hi ha
  have hlt:i<es.length:=by omega
  refine Ep.up ?_
  simp only[aAp.l0]
  refine Ep.pos (by omega) (Ep.pos (by omega) (Ep.pos (by omega) (Ep.pos trivial (Ep.pos (by omega) ?_))))
  rw[aEb hlt,aBw (by omega)]
  refine(ih (i+1) _ (by omega) (by simp;omega)).mono ?_
  rintro _ rfl
  rw[List.drop_eq_getElem_cons hlt,List.append_assoc]
  rfl
theorem aQa (e x:E) (r:List E):aLr e (x::r)=if x.f0>e.f0∨(x.f0=e.f0∧x.f1>e.f1) then e::x::r else x::aLr e r:=rfl
theorem aV8 (es:List E) (hel:es.length≤12) (n:Int) (e:E):∀ (d i:Nat) (acc:List E),i+d=es.length→acc.length≤i→Ep (fun k=>aAp.l0 k false es (es.length:Int) (i:Int) e.f0 e.f1 n acc) (·=(n,acc++aLr e (es.drop i),true)):=by
 intro d
 induction d with
 | zero =>
  intro i acc hi ha
  refine Ep.up ?_
  simp only[aAp.l0]
  refine Ep.neg (by omega) (Ep.neg (by simp) (Ep.pos (by omega) (Ep.now ?_)))
  rw[List.drop_of_length_le (by omega)]
  rfl
 | succ d ih =>
  intro i acc hi ha
  have hlt:i<es.length:=by omega
  refine Ep.up ?_
  simp only[aAp.l0]
  refine Ep.pos (by omega) (Ep.pos (by omega) (Ep.pos (by omega) (Ep.neg (by simp) ?_)))
  rw[aEb hlt,aBw (by omega),List.drop_eq_getElem_cons hlt]
  have put:∀ (hx:es[i].f0>e.f0∨(es[i].f0=e.f0∧es[i].f1>e.f1)),Ep (fun k=>(some (acc++[(⟨e.f0,e.f1⟩:E)])).bind fun y=>if y.length<8796093022208 then aAp.l0 k true es (es.length:Int) ((i+1:Nat):Int) e.f0 e.f1 n (y++[(⟨es[i].f0,es[i].f1⟩:E)]) else none) (·=(n,acc++aLr e (es[i]::es.drop (i+1)),true)):=by
   intro hx
   refine Ep.bind0 rfl (Ep.pos (by simp;omega) ?_)
   refine(aR2 es hel n e d (i+1) _ (by omega) (by simp;omega)).mono ?_
   rintro _ rfl
   unfold aLr
   rw[if_pos hx]
   simp only[List.append_assoc,List.cons_append,List.nil_append]
  have go:∀ (hx:¬ (es[i].f0>e.f0∨(es[i].f0=e.f0∧es[i].f1>e.f1))),Ep (fun k=>aAp.l0 k false es (es.length:Int) ((i+1:Nat):Int) e.f0 e.f1 n (acc++[(⟨es[i].f0,es[i].f1⟩:E)])) (·=(n,acc++aLr e (es[i]::es.drop (i+1)),true)):=by
   intro hx
   refine(ih (i+1) _ (by omega) (by simp;omega)).mono ?_
   rintro _ rfl
   rw[List.append_assoc,aQa,if_neg hx]
   rfl
  refine Ep.ite (fun h1=>Ep.pos (by omega) (put (.inl h1))) (fun h1=>Ep.ite (fun h2=>Ep.ite (fun h3=>Ep.pos (by omega) (put (.inr ⟨h2,h3⟩))) (fun h3=>Ep.pos (by omega) (go (by omega)))) (fun h2=>Ep.pos (by omega) (go (by omega))))
theorem aV7 {n:Int} {es:List E} (hg:GOk n es) (a b:Int):Ep (fun k=>aAp.f k n es a b) (fun r=>r.2.2=true→r.1=n∧GOk n r.2.1):=by
 have hG:=hg.1
 unfold EsOk at hG
 have hw:wrap64 (n-1)=n-1:=aC5 (by omega) (by omega)
 have no:Ep (fun k=>aAp.j0 k a b true n es) (fun r=>r.2.2=true→r.1=n∧GOk n r.2.1):=by
  refine Ep.up ?_
  simp only[aAp.j0]
  exact Ep.pos trivial (Ep.now (fun h=>by cases h))
 simp only[aAp.f]
 refine Ep.bind (aFv n es) ?_
 rintro _ rfl
 rw[gOk_iff.2 hg]
 refine Ep.pos rfl (Ep.bind0 (aFi _ _ _) (Ep.ite (fun h1=>?_) (fun _=>no)))
 refine Ep.bind0 (aFi _ _ _) (Ep.ite (fun h2=>?_) (fun _=>no))
 rw[decide_eq_true_eq,hw]at h1 h2
 refine Ep.ite (fun _=>no) (fun h3=>?_)
 refine Ep.up ?_
 simp only[aAp.j0]
 refine Ep.ite (fun _=>Ep.now (fun h=>by cases h)) (fun h4=>?_)
 have h5:es.length≠12:=by
  intro h
  rw[h]at h4
  exact h4 rfl
 refine(aV8 es hG.2.2.1 n ⟨mn a b,mx a b⟩ es.length 0 [] (by omega) (by simp)).mono ?_
 rintro _ rfl _
 refine⟨rfl,aUn hg h5 ?_⟩
 unfold EOk mn mx
 dsimp only
 split<;>split<;>omega
def hTo (t:List E) (n a b:Nat):List E:=(List.range a).flatMap (aOo t n)++(List.range b).flatMap fun c=>if a<c then List.replicate (mult t a c).toNat ⟨a,c⟩ else []
theorem aQg (t:List E) (n a:Nat):hTo t n a (a+1)=(List.range a).flatMap (aOo t n):=by
 have h:((List.range (a+1)).flatMap fun c=>if a<c then List.replicate (mult t a c).toNat (⟨a,c⟩:E) else [])=[]:=List.flatMap_eq_nil_iff.2 fun c hc=>by rw[if_neg (by have:=List.mem_range.1 hc;omega)]
 unfold hTo
 rw[h,List.append_nil]
theorem aUm (t:List E) (n a:Nat):hTo t n a n=(List.range (a+1)).flatMap (aOo t n):=by
 unfold hTo
 rw[List.range_succ,List.flatMap_append]
 simp[aOo]
theorem aSh (t:List E) (n a b:Nat) (h:a<b):hTo t n a (b+1)=hTo t n a b++List.replicate (mult t a b).toNat ⟨a,b⟩:=by
 unfold hTo
 rw[List.range_succ (n:=b),List.flatMap_append,← List.append_assoc]
 simp[h]
theorem aGq (C:Nat) (f:Nat→List E) (h:∀ i,(f i).length≤C):∀ n:Nat,((List.range n).flatMap f).length≤C*n:=by
 intro n
 induction n with
 | zero=>simp
 | succ n ih =>
  rw[List.range_succ,List.flatMap_append,List.length_append]
  have:=h n
  simp only[List.flatMap_cons,List.flatMap_nil,List.append_nil]
  rw[Nat.mul_succ]
  omega
theorem aUl (t:List E) (ht:t.length≤12) (n a b:Nat) (hn:n≤6) (ha:a≤6) (hb:b≤6):(hTo t n a b).length≤1000:=by
 have hr:∀ a c:Nat,(if a<c then List.replicate (mult t a c).toNat (⟨a,c⟩:E) else []).length≤12:=by
  intro a c
  have:=aGo t a c
  split
  ·rw[List.length_replicate];omega
  ·simp
 have h1:∀ a,(aOo t n a).length≤72:=fun a=>Nat.le_trans (aGq 12 _ (hr a) n) (by omega)
 have h2:=aGq 72 (aOo t n) h1 a
 have h3:=aGq 12 _ (hr a) b
 unfold hTo
 rw[List.length_append]
 omega
def aLo (b:List Int) (most:Int) (r:Int×List E×Int×Int):Prop:=∃ n:Nat,r.1=n∧2≤n∧(n:Int)≤most∧GOk (n:Int) r.2.1∧Cur b r.2.2.1
theorem aUp {b:List Int} (hb:b.length≤1048576) {n:Nat} (h2:2≤n) (h6:n≤6) {most:Int} (hm:(n:Int)≤most):∀ (c:Nat) (es:List E) (i h:Int),c≤10→GOk (n:Int) es→Cur b i→Ep (fun k=>aAc.l4 k (n:Int) (c:Int) b i h (n:Int) es) (aLo b most):=by
 intro c
 induction c with
 | zero =>
  intro es i h _ hg hc
  refine Ep.up ?_
  simp only[aAc.l4]
  exact Ep.neg (by omega) (Ep.now ⟨n,rfl,h2,hm,hg,hc⟩)
 | succ c ih =>
  intro es i h hc10 hg hc
  refine Ep.up ?_
  simp only[aAc.l4]
  refine Ep.pos (by omega) ?_
  obtain⟨x,i1,h1,e1,x0,x1,hc1⟩:=aGc hb h hc (a:=(n:Int)) (by omega) (by omega)
  refine Ep.bind0 e1 ?_
  rw[show wrap64 ((n:Int)-1)=n-1 from aC5 (by omega) (by omega)]
  obtain⟨y,i2,h2',e2,y0,y1,hc2⟩:=aGc hb h1 hc1 (a:=(n:Int)-1) (by omega) (by omega)
  refine Ep.bind0 e2 (Ep.neg (by omega) ?_)
  rw[show wrap64 (((c+1:Nat):Int)-1)=c from by rw[aC5 (by omega) (by omega)];omega]
  refine Ep.bind (aV7 hg _ _) ?_
  rintro⟨n',es',ok⟩ hr
  refine Ep.ite (fun h3=>?_) (fun _=>ih es i2 h2' (by omega) hg hc2)
  obtain⟨h4,h5⟩:=hr h3
  dsimp only at h4 h5
  subst h4
  exact ih es' i2 h2' (by omega) h5 hc2
theorem aUq {b:List Int} {n a c:Int} {t:List E} {i h:Int} {Q:Int×List E×Int×Int→Prop}:∀ (m:Nat) (acc:List E),m≤20→acc.length+m≤2000→Ep (fun k=>aAc.l2 k n a (wrap64 (c+1)) b i h n t n (acc++List.replicate m ⟨a,c⟩)) Q →
  Ep (fun k=>aAc.l3 k n a c (m:Int) b i h n t n acc) Q:=by
 intro m
 induction m with
 | zero =>
  intro acc _ hl hk
  refine Ep.up ?_
  simp only[aAc.l3]
  refine Ep.neg (by omega) ?_
  simpa using hk
 | succ m ih =>
  intro acc hm hl hk
  refine Ep.up ?_
  simp only[aAc.l3]
  refine Ep.pos (by omega) (Ep.pos (by omega) ?_)
  rw[show wrap64 (((m+1:Nat):Int)-1)=m from by rw[aC5 (by omega) (by omega)];omega]
  refine ih _ (by omega) (by simp;omega) ?_
  rw[List.append_assoc,show [(⟨a,c⟩:E)]++List.replicate m ⟨a,c⟩=List.replicate (m+1) ⟨a,c⟩ from rfl]
  exact hk
theorem aUr {b:List Int} {n:Nat} (h6:n≤6) {t:List E} (ht:aJ1 n t) {i h:Int} {a:Nat} (ha:a<n) {Q:Int×List E×Int×Int→Prop}
  (hk:Ep (fun k=>aAc.l1 k (n:Int) ((a+1:Nat):Int) b i h (n:Int) t (n:Int) ((List.range (a+1)).flatMap (aOo t n))) Q):∀ (d c:Nat),c+d=n→a<c →
  Ep (fun k=>aAc.l2 k (n:Int) (a:Int) (c:Int) b i h (n:Int) t (n:Int) (hTo t n a c)) Q:=by
 have hl:=ht.len
 intro d
 induction d with
 | zero =>
  intro c hc hac
  refine Ep.up ?_
  simp only[aAc.l2]
  obtain rfl:c=n:=by omega
  refine Ep.neg (by omega) ?_
  rw[aBw (by omega),aUm]
  exact hk
 | succ d ih =>
  intro c hc hac
  refine Ep.up ?_
  simp only[aAc.l2]
  refine Ep.pos (by omega) (Ep.bind (aNb (n:Int) t ht.ok (by omega) (a:Int) (c:Int) (by omega) (by omega)) ?_)
  rintro _ rfl
  have hm0:=aEe t (a:Int) (c:Int)
  have hm1:=aGo t (a:Int) (c:Int)
  have hlen:=aUl t (by omega) n a c h6 (by omega) (by omega)
  obtain⟨m,hm⟩:=Int.eq_ofNat_of_zero_le hm0
  rw[hm]
  refine aUq m _ (by omega) (by omega) ?_
  rw[aBw (by omega)]
  have:=ih (c+1) (by omega) (by omega)
  rw[aSh t n a c hac,hm]at this
  exact this
theorem aUs {b:List Int} (hb:b.length≤1048576) {n:Nat} (h2:2≤n) (h6:n≤6) {most:Int} (hm:(n:Int)≤most) {t:List E} (ht:aJ1 n t) {i h:Int} (hc:Cur b i):∀ (d a:Nat),a+d=n →
  Ep (fun k=>aAc.l1 k (n:Int) (a:Int) b i h (n:Int) t (n:Int) ((List.range a).flatMap (aOo t n))) (aLo b most):=by
 intro d
 induction d with
 | zero =>
  intro a ha
  refine Ep.up ?_
  simp only[aAc.l1]
  obtain rfl:a=n:=by omega
  refine Ep.neg (by omega) ?_
  obtain⟨x,i1,h1,e1,x0,x1,hc1⟩:=aGc hb h hc (a:=5) (by omega) (by omega)
  refine Ep.bind0 e1 ?_
  obtain⟨c,rfl⟩:=Int.eq_ofNat_of_zero_le x0
  exact aUp hb h2 h6 hm c _ i1 h1 (by omega) (ht.gOk h6) hc1
 | succ d ih =>
  intro a ha
  refine Ep.up ?_
  simp only[aAc.l1]
  refine Ep.pos (by omega) ?_
  rw[aBw (by omega),← aQg]
  exact aUr h6 ht (by omega) (ih (a+1) (by omega)) (n-(a+1)) (a+1) (by omega) (by omega)
theorem aUt {b:List Int} (hb:b.length≤1048576) {n:Nat} (h2:2≤n) (h6:n≤6) {most:Int} (hm:(n:Int)≤most):∀ (d v:Nat) (t:List E) (i h:Int),v+d=n→1≤v→aJ1 v t→Cur b i →
  Ep (fun k=>aAc.l0 k (n:Int) (v:Int) b i h (v:Int) t) (aLo b most):=by
 intro d
 induction d with
 | zero =>
  intro v t i h hv h1 ht hc
  refine Ep.up ?_
  simp only[aAc.l0]
  obtain rfl:v=n:=by omega
  refine Ep.neg (by omega) ?_
  exact aUs hb h2 h6 hm ht hc v 0 (by omega)
 | succ d ih =>
  intro v t i h hv h1 ht hc
  have hl:=ht.len
  refine Ep.up ?_
  simp only[aAc.l0]
  obtain⟨x,i1,h1',e1,x0,x1,hc1⟩:=aGc hb h hc (a:=(v:Int)) (by omega) (by omega)
  refine Ep.pos (by omega) (Ep.bind0 e1 (Ep.pos (by omega) ?_))
  rw[aBw (by omega)]
  exact ih (v+1) _ i1 h1' (by omega) (by omega) (ht.next x0 x1) hc1
theorem aUo {b:List Int} (hb:b.length≤1048576) {i:Int} (h:Int) (hc:Cur b i) {most:Int} (h3:2≤most) (h5:most≤6):Ep (fun k=>aAc.f k b i h most) (aLo b most):=by
 simp only[aAc.f]
 rw[aC5 (x:=most-1) (by omega) (by omega)]
 obtain⟨x,i1,h1,e1,x0,x1,hc1⟩:=aGc hb h hc (a:=most-1) (by omega) (by omega)
 refine Ep.bind0 e1 ?_
 dsimp only
 obtain⟨c,rfl⟩:=Int.eq_ofNat_of_zero_le x0
 rw[show wrap64 (2+(c:Int))=((2+c:Nat):Int) from by rw[aC5 (by omega) (by omega)];omega]
 exact aUt hb (by omega) (by omega) (by omega) (1+c) 1 [] i1 h1 (by omega) (by omega) .start hc1
structure Pl (n:Nat) (q:Int) (p:List Int):Prop where
 len:p.length=n
 bd:∀ y∈p,0≤y∧y≤6
 hq:rd p q=0
end Go.Proofs.Ytnbljcgdgblgoaa.Cf
end
section
namespace Go.Proofs.Ytnbljcgdgblgoaa.Cf
open Go.RowKit Go.Proofs.YtnbljcgdgblgoaaW.PrintWords
def alt:Nat→(Nat→Int)→Int
 | 0,_=>0
 | n+1,g=>g 0-alt n fun i=>g (i+1)
theorem aIn:∀ {n:Nat} {f g:Nat→Int},(∀ i,i<n→f i=g i)→alt n f=alt n g
 | 0,_,_,_=>rfl
 | n+1,f,g,h=>by
  unfold alt
  rw[h 0 (by omega),aIn (n:=n) (f:=fun i=>f (i+1)) (g:=fun i=>g (i+1)) fun i hi=>h (i+1) (by omega)]
theorem aXt {n:Nat} {g:Nat→Int} {C:Int} (h:∀ i,i<n→-C≤g i∧g i≤C):-(n*C)≤alt n g∧alt n g≤n*C:=by
 induction n generalizing g with
 | zero=>simp[alt]
 | succ n ih =>
  have h0:=h 0 (by omega)
  have h1:=ih (g:=fun i=>g (i+1)) fun i hi=>h (i+1) (by omega)
  unfold alt
  have e:((n+1:Nat):Int)*C=n*C+C:=by rw[Int.natCast_add,Int.add_mul];simp
  omega
def ent (M:List (List Int)) (r c:Int):Int:=rd (M.getD r.toNat []) c
def aFm (M:List (List Int)):List Int→List Int→Int
 | [],_=>1
 | r::rs,cs=>alt cs.length fun i=>ent M r (cs.getD i 0)*aFm M rs (cs.eraseIdx i)
theorem aQ4 {a b A B:Int} (ha:-A≤a∧a≤A) (hb:-B≤b∧b≤B):-(A*B)≤a*b∧a*b≤A*B:=by
 have hA:0≤A:=by omega
 have h1:a.natAbs*b.natAbs≤A.natAbs*B.natAbs:=Nat.mul_le_mul (by omega) (by omega)
 rw[← Int.natAbs_mul,← Int.natAbs_mul]at h1
 have h2:0≤A*B:=Int.mul_nonneg (by omega) (by omega)
 omega
theorem aQp {M:List (List Int)} {B:Int} (hB:0≤B) (hM:∀ r c,-B≤ent M r c∧ent M r c≤B):∀ (rs cs:List Int),cs.length≤6→-((6*B)^rs.length)≤aFm M rs cs∧aFm M rs cs≤(6*B)^rs.length
 | [],cs,_=>by simp[aFm]
 | r::rs,cs,hc=>by
  have h:=aXt (n:=cs.length) (g:=fun i=>ent M r (cs.getD i 0)*aFm M rs (cs.eraseIdx i)) (C:=B*(6*B)^rs.length) fun i hi =>
   aQ4 (hM _ _) (aQp hB hM rs (cs.eraseIdx i) (by have:=List.length_eraseIdx_le cs i;omega))
  have hp:0≤B*(6*B)^rs.length:=Int.mul_nonneg hB (Int.pow_nonneg (by omega))
  have e:(6*B)^(r::rs).length=6*(B*(6*B)^rs.length):=by
   rw[List.length_cons,Int.pow_succ,Int.mul_comm,Int.mul_assoc]
  have h6:(cs.length:Int)*(B*(6*B)^rs.length)≤6*(B*(6*B)^rs.length):=Int.mul_le_mul_of_nonneg_right (by omega) hp
  rw[e]
  unfold aFm
  omega
abbrev Col:=Int→Int
def z0:Col:=fun _=>0
def aYk:List Int→List Col→Int
 | [],_=>1
 | r::rs,cs=>alt cs.length fun i=>(cs.getD i z0) r*aYk rs (cs.eraseIdx i)
end Go.Proofs.Ytnbljcgdgblgoaa.Cf
end
section
namespace Go.Proofs.Ytnbljcgdgblgoaa.Cf
open Go.RowKit Go.Proofs.YtnbljcgdgblgoaaW.PrintWords Go.Proofs.Ytnbljcgdgblgoaa.P
def aF9 (m i:Nat):List Int:=((List.range i).filter fun j=>m.testBit j).map fun j:Nat=>(j:Int)
def aEm (m:Nat):List Int:=aF9 m 6
theorem aXq:∀ (m:Fin 64) (i:Fin 7),(shr .i64 (m.val:Int) (i.val:Int)>0∧i.val<6)∨(¬ shr .i64 (m.val:Int) (i.val:Int)>0∧aF9 m.val i.val=aEm m.val):=by decide
theorem aTa:∀ (m:Fin 64) (i:Fin 6),(Go.bits .and .i64 (shr .i64 (m.val:Int) (i.val:Int)) 1=1∧m.val.testBit i.val=true)∨(Go.bits .and .i64 (shr .i64 (m.val:Int) (i.val:Int)) 1=0∧m.val.testBit i.val=false):=by decide
theorem aJl (m i:Nat):aF9 m (i+1)=aF9 m i++(if m.testBit i then [(i:Int)] else []):=by
 unfold aF9
 rw[List.range_succ,List.filter_append,List.map_append]
 congr 1
 by_cases c:m.testBit i=true
 ·rw[if_pos c,List.filter_cons_of_pos (by simpa using c)];rfl
 ·rw[if_neg c,List.filter_cons_of_neg (by simpa using c)];rfl
theorem aLi (m i:Nat):(aF9 m i).length≤i:=by
 unfold aF9
 rw[List.length_map]
 exact Nat.le_trans (List.length_filter_le _ _) (by simp)
theorem aV2:∀ (m:Fin 64) (i:Fin 6),m.val.testBit i.val=true→∃ m':Fin 64,Go.bits .andNot .i64 (m.val:Int) (shl .i64 1 (i.val:Int))=(m'.val:Int)∧aEm m'.val=(aEm m.val).eraseIdx (aF9 m.val i.val).length∧(aEm m.val)[(aF9 m.val i.val).length]? = some (i.val:Int)∧m'.val≤m.val:=by decide
theorem aXr:∀ (m:Fin 64) (i:Fin 7),m.val<2^i.val→aF9 m.val i.val=aEm m.val:=by decide
theorem aSo:∀ i:Fin 7,aEm (2^i.val-1)=(List.range i.val).map (fun j:Nat=>(j:Int))∧shl .i64 1 (i.val:Int)=((2^i.val:Nat):Int)∧(2^i.val-1:Nat)<64∧0<2^i.val:=by decide
theorem aV1 {i:Nat} (hi:i<7):aEm (2^i-1)=(List.range i).map (fun j:Nat=>(j:Int))∧wrap64 (shl .i64 1 (i:Int)-1)=((2^i-1:Nat):Int)∧shl .i64 1 (i:Int)=((2^i:Nat):Int)∧(2^i-1:Nat)<64:=by
 obtain⟨h1,h2,h3,h4⟩:=aSo ⟨i,hi⟩
 simp only at h1 h2 h3 h4
 refine⟨h1,?_,h2,h3⟩
 rw[h2,aC5 (by omega) (by omega)]
 omega
theorem aMp {m:Nat} (hm:m<64):∀ (d i:Nat),i+d=6→Ep (fun k=>aBn.l0 k (m:Int) (aF9 m i) (i:Int)) (·=aEm m):=by
 intro d
 induction d with
 | zero =>
  intro i hi
  refine Ep.up ?_
  simp only[aBn.l0]
  rcases aXq ⟨m,hm⟩ ⟨i,by omega⟩ with ⟨_,h⟩|⟨h1,h2⟩
  ·exact absurd h (by simp;omega)
  ·exact Ep.pos (by omega) (Ep.neg h1 (Ep.now h2))
 | succ d ih =>
  intro i hi
  have h:=ih (i+1) (by omega)
  rw[aJl]at h
  refine Ep.up ?_
  simp only[aBn.l0]
  rcases aXq ⟨m,hm⟩ ⟨i,by omega⟩ with ⟨h1,_⟩|⟨h1,h2⟩
  ·refine Ep.pos (by omega) (Ep.pos h1 ?_)
   rw[aBw (by omega)]
   rcases aTa ⟨m,hm⟩ ⟨i,by omega⟩ with ⟨b1,b2⟩|⟨b1,b2⟩
   ·rw[if_pos b2]at h
    exact Ep.pos b1 (Ep.pos (by have:=aLi m i;omega) h)
   ·have b1':Go.bits .and .i64 (shr .i64 (m:Int) (i:Int)) 1=0:=b1
    rw[if_neg (by simpa using b2),List.append_nil]at h
    exact Ep.neg (by rw[b1'];omega) h
  ·exact Ep.pos (by omega) (Ep.neg h1 (Ep.now h2))
theorem aSg {m:Nat} (hm:m<64):Ep (fun k=>aBn.f k (m:Int)) (·=aEm m):=aMp hm 6 0 rfl
end Go.Proofs.Ytnbljcgdgblgoaa.Cf
end
section
namespace Go.Proofs.Ytnbljcgdgblgoaa.Cf
open Go.RowKit Go.Proofs.YtnbljcgdgblgoaaW.PrintWords
structure Rec (c:Int) (F:List E→List Int→Int):Prop where
 perm:∀ {es es':List E} {vs:List Int},es.Perm es'→F es vs=F es' vs
 nil:F [] []=1
 loop:∀ (e:E) (es:List E) (vs:List Int),vs.Nodup→e.f0∉vs→e.f1∉vs→F (e::es) vs=c*F es vs
 cut:∀ (e:E) (es:List E) (vs:List Int) (u v:Int),(e.f0=u∧e.f1=v)∨(e.f0=v∧e.f1=u)→(∀ x∈es,x.f0≠x.f1)→vs.Nodup→v∈vs→u∉vs→F (e::es) vs=F es vs+F es (vs.erase v)
 far:∀ (es:List E) (vs:List Int),(∀ x∈es,x.f0≠x.f1)→vs.Nodup→vs≠[]→(∀ e∈es,e.f0∈vs↔e.f1∈vs)→F es vs=0
structure aZs (c:Int) (R:List E→List Int→Int→Prop):Prop where
 perm:∀ {es es':List E} {vs:List Int} {k:Int},es.Perm es'→R es vs k→R es' vs k
 nil:R [] [] 1
 loop:∀ (e:E) (es:List E) (vs:List Int) (k:Int),vs.Nodup→e.f0∉vs→e.f1∉vs→R es vs k→R (e::es) vs (c*k)
 cut:∀ (e:E) (es:List E) (vs:List Int) (u v k k':Int),(e.f0=u∧e.f1=v)∨(e.f0=v∧e.f1=u)→(∀ x∈es,x.f0≠x.f1)→vs.Nodup→v∈vs→u∉vs→R es vs k→R es (vs.erase v) k'→R (e::es) vs (k+k')
 far:∀ (es:List E) (vs:List Int),(∀ x∈es,x.f0≠x.f1)→vs.Nodup→vs≠[]→(∀ e∈es,e.f0∈vs↔e.f1∈vs)→R es vs 0
theorem aZs.of {c:Int} {F:List E→List Int→Int} {R:List E→List Int→Int→Prop} (hF:Rec c F) (hR:aZs c R):∀ (m:Nat) (es:List E) (vs:List Int),es.length=m→(∀ x∈es,x.f0≠x.f1)→vs.Nodup→R es vs (F es vs):=by
 intro m
 induction m with
 | zero =>
  intro es vs hm hl hn
  obtain rfl:=List.length_eq_zero_iff.1 hm
  by_cases h:vs=[]
  ·rw[h,hF.nil];exact hR.nil
  ·rw[hF.far [] vs hl hn h (fun e he=>by cases he)];exact hR.far [] vs hl hn h (fun e he=>by cases he)
 | succ m ih =>
  intro es vs hm hl hn
  by_cases h:∃ e∈es,∃ u v:Int,((e.f0=u∧e.f1=v)∨(e.f0=v∧e.f1=u))∧v∈vs∧u∉vs
  ·obtain⟨e,he,u,v,huv,hv,hu⟩:=h
   obtain⟨l1,l2,rfl⟩:=List.append_of_mem he
   have hp:(l1++e::l2).Perm (e::(l1++l2)):=List.perm_middle
   have hl':∀ x∈l1++l2,x.f0≠x.f1:=fun x hx=>hl x (by simp at hx ⊢;rcases hx with h|h<;>simp[h])
   have hm':(l1++l2).length=m:=by simp at hm ⊢;omega
   rw[hF.perm hp,hF.cut e _ vs u v huv hl' hn hv hu]
   exact hR.perm hp.symm (hR.cut e _ vs u v _ _ huv hl' hn hv hu (ih _ vs hm' hl' hn) (ih _ (vs.erase v) hm' hl' (hn.erase v)))
  ·have hfar:∀ e∈es,e.f0∈vs↔e.f1∈vs:=fun e he=>⟨fun h0=>Classical.byContradiction fun h1=>h ⟨e,he,e.f1,e.f0,.inr ⟨rfl,rfl⟩,h0,h1⟩,fun h1=>Classical.byContradiction fun h0=>h ⟨e,he,e.f0,e.f1,.inl ⟨rfl,rfl⟩,h1,h0⟩⟩
   by_cases hv:vs=[]
   ·subst hv
    cases es with
    | nil=>simp at hm
    | cons e es =>
     rw[hF.loop e es [] (by simp) (by simp) (by simp)]
     exact hR.loop e es [] _ (by simp) (by simp) (by simp) (ih es [] (by simpa using hm) (fun x hx=>hl x (List.mem_cons_of_mem _ hx)) hn)
   ·rw[hF.far es vs hl hn hv hfar]
    exact hR.far es vs hl hn hv hfar
def aK3 (es:List E) (r c:Int):Int:=if r=c then val es r else-mult es r c
def aMr (es:List E) (vs:List Int):Int:=aYk vs (vs.map fun c r=>aK3 es r c)
theorem getD_map {α β:Type} (f:α→β) (l:List α) (i:Nat) (d:α) (d':β) (h:i<l.length):(l.map f).getD i d'=f (l.getD i d):=by
 rw[List.getD_eq_getElem?_getD,List.getElem?_map,List.getD_eq_getElem?_getD,List.getElem?_eq_getElem h]
 rfl
theorem aSi {α:Type} {l:List α} {i:Nat} (d:α) (h:i<l.length):l.getD i d∈l:=by
 rw[List.getD_eq_getElem?_getD,List.getElem?_eq_getElem h]
 exact List.getElem_mem h
theorem map_eraseIdx {α β:Type} (f:α→β) (l:List α) (i:Nat):(l.map f).eraseIdx i=(l.eraseIdx i).map f:=by
 apply List.ext_getElem?
 intro k
 simp only[List.getElem?_eraseIdx,List.getElem?_map]
 split<;>rfl
end Go.Proofs.Ytnbljcgdgblgoaa.Cf
end
section
namespace Go.Proofs.Ytnbljcgdgblgoaa.Cf
open Go.RowKit Go.Proofs.YtnbljcgdgblgoaaW.PrintWords Go.Proofs.Ytnbljcgdgblgoaa.P
def aF1 (n:Nat) (es:List E) (r:Int):List Int:=aRi n fun c=>aK3 es r c
def aK4 (n:Nat) (es:List E):List (List Int):=(List.range n).map fun r:Nat=>aF1 n es (r:Int)
theorem aHb (n:Nat) (es:List E):(aK4 n es).length=n:=by simp[aK4]
theorem aUf {es:List E} (hel:es.length≤12) (r c:Int):-12≤aK3 es r c∧aK3 es r c≤12:=by
 have h1:=aJ4 es r
 have h2:=aN1 es r
 have h3:=aEe es r c
 have h4:=aGo es r c
 unfold aK3
 split<;>omega
theorem aOl {n:Nat} {es:List E} (hes:∀ e∈es,EOk n e) (hel:es.length≤12) (hn:n≤6) {M:List (List Int)} (hM:M.length≤6) {v:Nat} (hv:v<n) {Q:List (List Int)→Prop}
  (hQ:Ep (fun k=>aAr.l0 k (M++[aF1 n es (v:Int)]) ((v+1:Nat):Int) (n:Int) es) Q):∀ (d i:Nat) (x:List Int),i+d=n→Rep n x (fun w=>if w<i then-mult es (v:Int) w else 0) →
  Ep (fun k=>aAr.l1 k M (v:Int) x (n:Int) (i:Int) (n:Int) es) Q:=by
 intro d
 induction d with
 | zero =>
  intro i x hi hx
  refine Ep.up ?_
  simp only[aAr.l1]
  refine Ep.neg (by omega) (Ep.bind (aIj _ es _ (by omega)) ?_)
  rintro _ rfl
  refine Ep.pos (by omega) (Ep.pos (by have:=hx.1;omega) (Ep.pos (by omega) ?_))
  have e:x.set ((v:Int)).toNat (aT0 (n:Int) es (v:Int))=aF1 n es (v:Int):=((hx.set (v:=(v:Int)) (by omega) (by omega) _).congr fun w w0 w1=>by
   unfold aK3
   by_cases c:w=v
   ·rw[if_pos c,if_pos c.symm,aLz ⟨by omega,by omega⟩]
   ·rw[if_neg c,if_pos (by omega),if_neg (fun q=>c q.symm)]).eq
  rw[e,aBw (by omega)]
  exact hQ
 | succ d ih =>
  intro i x hi hx
  refine Ep.up ?_
  simp only[aAr.l1]
  refine Ep.pos (by omega) (Ep.bind (aNs _ es hes hel _ _ ⟨by omega,by omega⟩ ⟨by omega,by omega⟩) ?_)
  rintro _ rfl
  have hm0:=aEe es (v:Int) (i:Int)
  have hm1:=aGo es (v:Int) (i:Int)
  refine Ep.pos (by omega) (Ep.pos (by have:=hx.1;omega) ?_)
  rw[aC5 (by omega) (by omega),aBw (by omega)]
  refine ih (i+1) _ (by omega) ((hx.set (v:=(i:Int)) (by omega) (by omega) _).congr fun w w0 w1=>?_)
  by_cases c:w=i
  ·rw[if_pos c,if_pos (by omega),c]
  ·rw[if_neg c]
   by_cases c2:w<i
   ·rw[if_pos c2,if_pos (by omega)]
   ·rw[if_neg c2,if_neg (by omega)]
theorem aL7 {n:Nat} (es:List E) {v:Nat} (hv:v<n):(aK4 n es).take (v+1)=(aK4 n es).take v++[aF1 n es (v:Int)]:=by
 rw[List.take_succ_eq_append_getElem (by rw[aHb];exact hv)]
 simp[aK4]
theorem aOm {n:Nat} {es:List E} (hes:∀ e∈es,EOk n e) (hel:es.length≤12) (hn:n≤6):∀ (d v:Nat),v+d=n→Ep (fun k=>aAr.l0 k ((aK4 n es).take v) (v:Int) (n:Int) es) (·=aK4 n es):=by
 intro d
 induction d with
 | zero =>
  intro v hv
  refine Ep.up ?_
  simp only[aAr.l0]
  refine Ep.neg (by omega) (Ep.now ?_)
  rw[List.take_of_length_le (by rw[aHb];omega)]
 | succ d ih =>
  intro v hv
  have h1:=ih (v+1) (by omega)
  rw[aL7 es (by omega)]at h1
  refine Ep.up ?_
  simp only[aAr.l0]
  refine Ep.pos (by omega) (Ep.pos (by omega) (Ep.pos (by omega) (Ep.bind0 rfl ?_)))
  rw[Int.toNat_natCast,List.length_replicate]
  exact aOl hes hel hn (by rw[List.length_take];omega) (by omega) h1 n 0 _ (by omega) ((Rep.zero n).congr fun w w0 w1=>by rw[if_neg (by omega)])
theorem aUh {n:Nat} {es:List E} (hg:GOk (n:Int) es):Ep (fun k=>aAr.f k (n:Int) es) (·=aK4 n es):=by
 have hG:=hg.1
 unfold EsOk at hG
 simp only[aAr.f]
 refine Ep.bind0 (aG0 _ _) ?_
 rw[gOk_iff.2 hg]
 refine Ep.pos rfl ?_
 have:=aOm (n:=n) hG.2.2.2 hG.2.2.1 (by omega) n 0 (by omega)
 simpa using this
def vsL (n q:Nat):List Int:=((List.range n).eraseIdx q).map fun i:Nat=>(i:Int)
theorem aJs {n q:Nat} (hq:q<n):(vsL n q).length=n-1:=by
 unfold vsL
 rw[List.length_map,List.length_eraseIdx,if_pos (by simpa using hq),List.length_range]
def aNg (n:Nat) (es:List E) (q:Nat):List (List Int):=(vsL n q).map fun r=>(vsL n q).map fun c=>aK3 es r c
theorem aS1 {n q:Nat} (hq:q<n) (es:List E):(aNg n es q).length=n-1:=by unfold aNg;rw[List.length_map,aJs hq]
theorem aJe (q:Nat) (L:List (List Int)):∀ i,i≤L.length→keepF q L i=((L.take i).eraseIdx q).map fun r=>r.eraseIdx q
 | 0,_=>by simp[keepF]
 | i+1,h=>by
  have hi:i<L.length:=by omega
  have ih:=aJe q L i (by omega)
  unfold keepF
  have hl:(L.take i).length=i:=by rw[List.length_take];omega
  rw[List.take_succ_eq_append_getElem hi]
  by_cases c:i=q
  ·rw[if_pos c,ih,List.eraseIdx_append_of_length_le (by omega),hl,show q-i=0 by omega,List.eraseIdx_of_length_le (l:=L.take i) (by omega)]
   simp
  ·rw[if_neg c,ih]
   have hg:L.getD i []=L[i]:=by simp[List.getD,hi]
   rw[hg]
   by_cases d:q<i
   ·rw[List.eraseIdx_append_of_lt_length (by omega)]
    simp
   ·rw[List.eraseIdx_append_of_length_le (by omega),List.eraseIdx_of_length_le (l:=L.take i) (by omega),List.eraseIdx_of_length_le (l:=[L[i]]) (by simp;omega),List.map_append]
    rfl
theorem aNo {n q:Nat} (es:List E):keepF q (aK4 n es) (aK4 n es).length=aNg n es q:=by
 rw[aJe q _ _ (Nat.le_refl _),List.take_length]
 unfold aK4 aNg vsL aF1 aRi
 rw[map_eraseIdx,List.map_map]
 show _=(((List.range n).eraseIdx q).map fun i:Nat=>(i:Int)).map _
 rw[List.map_map]
 refine List.map_congr_left fun r _=>?_
 show ((List.range n).map fun c:Nat=>aK3 es (r:Int) (c:Int)).eraseIdx q=(((List.range n).eraseIdx q).map fun i:Nat=>(i:Int)).map _
 rw[map_eraseIdx,List.map_map]
 rfl
theorem aXb {n:Nat} {es:List E} (hg:GOk (n:Int) es) {q:Nat} (hq:q<n):Ep (fun k=>aBz.f k (n:Int) es (q:Int)) (·=aNg n es q):=by
 have hG:=hg.1
 unfold EsOk at hG
 simp only[aBz.f]
 refine Ep.bind0 (aGs (n:Int) es _ (by simp[Wf,Lit.wf,IntKind.min,IntKind.max,IntKind.signed,IntKind.bits];omega)) ?_
 refine Ep.pos (by rw[gOk_iff.2 hg];simp;omega) ?_
 refine Ep.bind (aUh hg) ?_
 rintro _ rfl
 have e:redF (q:Int) (aK4 n es)=some (aNg n es q):=by
  unfold redF
  rw[if_pos,Int.toNat_natCast,aNo]
  refine⟨by omega,by omega,by rw[aHb];omega,fun r hr=>?_⟩
  unfold aK4 at hr
  obtain⟨i,_,rfl⟩:=List.mem_map.1 hr
  unfold aF1
  rw[aJx]
  omega
 exact Ep.congr (fun _=>e) (Ep.now rfl)
def aLt (m:Nat) (M:List (List Int)):Prop:=M.length=m∧(∀ r∈M,r.length=m)∧∀ r∈M,∀ x∈r,-12≤x∧x≤12
theorem aX2 {l:List Int} (h:∀ x∈l,-12≤x∧x≤12) (i:Int):-12≤rd l i∧rd l i≤12:=by
 unfold rd
 by_cases c:i.toNat<l.length
 ·rw[List.getD_eq_getElem?_getD,List.getElem?_eq_getElem c]
  exact h _ (List.getElem_mem c)
 ·rw[List.getD_eq_getElem?_getD,List.getElem?_eq_none (by omega)]
  simp
theorem aLt.ent {m:Nat} {M:List (List Int)} (h:aLt m M) (r c:Int):-12≤ent M r c∧ent M r c≤12:=by
 unfold Cf.ent
 by_cases d:r.toNat<M.length
 ·rw[List.getD_eq_getElem?_getD,List.getElem?_eq_getElem d]
  exact aX2 (h.2.2 _ (List.getElem_mem d)) c
 ·rw[List.getD_eq_getElem?_getD,List.getElem?_eq_none (by omega)]
  simp[rd]
theorem aT7 {m:Nat} {M:List (List Int)} (h:aLt m M) {rs cs:List Int} (hr:rs.length≤5) (hc:cs.length≤6):-1934917632≤aFm M rs cs∧aFm M rs cs≤1934917632:=by
 have h1:=aQp (B:=12) (by omega) h.ent rs cs hc
 have h2:((6*12:Int))^rs.length≤1934917632:=by
  match hl:rs.length,hr with
  | 0,_=>decide
  | 1,_=>decide
  | 2,_=>decide
  | 3,_=>decide
  | 4,_=>decide
  | 5,_=>decide
 omega
theorem aLk (n:Nat) (g:Nat→Int) (p:Nat):alt (n+1) (fun i=>g (p+i))=g p-alt n (fun i=>g (p+1+i)):=by
 show g (p+0)-_=_
 rw[Nat.add_zero]
 congr 1
 exact aIn fun i _=>by show g (p+(i+1))=_;rw[show p+(i+1)=p+1+i by omega]
theorem aOn {m:Nat} (hm:m≤5) {M:List (List Int)} (hM:aLt m M) {r:Int} {rs:List Int} (hr:0≤r∧r<m) (hrs:rs.length≤4) {b:Nat} (hb:b<2^m)
  (ih:∀ b':Nat,b'<2^m→Ep (fun k=>aAm.f k M rs (b':Int)) (·=aFm M rs (aEm b'))) :
  ∀ (d c:Nat) (s σ:Int),c+d=m→(σ=1∨σ=-1)→(-(c*23219011584:Int)≤s∧s≤c*23219011584) →
   Ep (fun k=>aAm.l0 k M (r::rs) (b:Int) s σ (aBp M r) (m:Int) (c:Int))
    (·=s+σ*alt ((aEm b).length-(aF9 b c).length) fun i=>ent M r ((aEm b).getD ((aF9 b c).length+i) 0)*aFm M rs ((aEm b).eraseIdx ((aF9 b c).length+i))):=by
 have h32:(2:Nat)^m≤32:=by
  have:=Nat.pow_le_pow_right (show 0<2 by omega) hm
  omega
 have hrow:(aBp M r).length=m:=by
  unfold aBp
  rw[List.getD_eq_getElem?_getD,List.getElem?_eq_getElem (by have:=hM.1;omega)]
  exact hM.2.1 _ (List.getElem_mem _)
 intro d
 induction d with
 | zero =>
  intro c s σ hc hσ hs
  refine Ep.up ?_
  simp only[aAm.l0]
  refine Ep.neg (by omega) (Ep.now ?_)
  have e:=aXr ⟨b,by omega⟩ ⟨c,by omega⟩ (by simp;rw[show c=m by omega];exact hb)
  simp only at e
  rw[e,Nat.sub_self]
  simp[alt]
 | succ d ihd =>
  intro c s σ hc hσ hs
  refine Ep.up ?_
  simp only[aAm.l0]
  refine Ep.pos (by omega) (Ep.pos (by omega) (Ep.pos (by omega) ?_))
  rw[aBw (by omega)]
  have hsu:=aJl b c
  rcases aTa ⟨b,by omega⟩ ⟨c,by omega⟩ with ⟨b1,b2⟩|⟨b1,b2⟩
  ·simp only at b1 b2
   rw[if_pos b2]at hsu
   obtain⟨m',e1,e2,e3,e4⟩:=aV2 ⟨b,by omega⟩ ⟨c,by omega⟩ b2
   simp only at e1 e2 e3 e4
   have hp:(aF9 b c).length<(aEm b).length:=by
    rw[List.getElem?_eq_some_iff]at e3
    exact e3.1
   have hg:(aEm b).getD (aF9 b c).length 0=(c:Int):=by rw[List.getD_eq_getElem?_getD,e3];rfl
   have hl1:(aF9 b (c+1)).length=(aF9 b c).length+1:=by rw[hsu];simp
   have hsplit:(aEm b).length-(aF9 b c).length=((aEm b).length-(aF9 b (c+1)).length)+1:=by omega
   have hent:rd (aBp M r) (c:Int)=ent M r (c:Int):=rfl
   have hbd:=hM.ent r (c:Int)
   have hdb:=aT7 hM (rs:=rs) (cs:=aEm m'.val) (by omega) (by have:=aLi m'.val 6;exact this)
   rw[hsplit,aLk _ (fun i=>ent M r ((aEm b).getD i 0)*aFm M rs ((aEm b).eraseIdx i)),hg,← e2,← hl1]
   refine Ep.neg (by rw[b1];omega) ?_
   rw[hent]
   by_cases hz:ent M r (c:Int)=0
   ·refine Ep.pos hz ?_
    have hneg:wrap64 (-σ)=-σ:=aC5 (by omega) (by omega)
    rw[hneg]
    refine(ihd (c+1) s (-σ) (by omega) (by omega) (by omega)).mono fun v hv=>?_
    rw[hv,hz,Int.zero_mul,Int.zero_sub,Int.mul_neg,Int.neg_mul]
   ·refine Ep.neg hz (Ep.pos (by rw[List.length_cons];omega) ?_)
    rw[e1]
    refine Ep.bind (ih m'.val (by omega)) ?_
    rintro _ rfl
    have hneg:wrap64 (-σ)=-σ:=aC5 (by omega) (by omega)
    have hprod:=aQ4 hbd hdb
    have e5:wrap64 (σ*ent M r (c:Int))=σ*ent M r (c:Int):=by
     rcases hσ with rfl|rfl
     ·exact aC5 (by omega) (by omega)
     ·exact aC5 (by omega) (by omega)
    have e6:σ*ent M r (c:Int)*aFm M rs (aEm m'.val)=σ*(ent M r (c:Int)*aFm M rs (aEm m'.val)):=Int.mul_assoc _ _ _
    have hb2:-(23219011584:Int)≤σ*(ent M r (c:Int)*aFm M rs (aEm m'.val))∧σ*(ent M r (c:Int)*aFm M rs (aEm m'.val))≤23219011584:=by
     rcases hσ with rfl|rfl<;>omega
    rw[e5,e6]
    have e7:wrap64 (σ*(ent M r (c:Int)*aFm M rs (aEm m'.val)))=σ*(ent M r (c:Int)*aFm M rs (aEm m'.val)):=aC5 (by omega) (by omega)
    have e8:wrap64 (s+σ*(ent M r (c:Int)*aFm M rs (aEm m'.val)))=s+σ*(ent M r (c:Int)*aFm M rs (aEm m'.val)):=aC5 (by omega) (by omega)
    rw[e7,e8,hneg]
    refine(ihd (c+1) _ (-σ) (by omega) (by omega) (by omega)).mono fun v hv=>?_
    rw[hv,Int.mul_sub,Int.neg_mul]
    omega
  ·simp only at b1 b2
   have b2':¬ b.testBit c=true:=by simpa using b2
   rw[if_neg b2',List.append_nil]at hsu
   refine Ep.pos b1 ?_
   have h:=ihd (c+1) s σ (by omega) hσ (by omega)
   rw[hsu]at h
   exact h
theorem aQe {m:Nat} (hm:m≤5) {M:List (List Int)} (hM:aLt m M):∀ (rs:List Int),rs.length≤5→(∀ r∈rs,0≤r∧r<(m:Int))→∀ b:Nat,b<2^m→Ep (fun k=>aAm.f k M rs (b:Int)) (·=aFm M rs (aEm b))
 | [],_,_,b,_=>by
  refine Ep.up ?_
  simp only[aAm.f]
  exact Ep.pos rfl (Ep.now rfl)
 | r::rs,hl,hr,b,hb=>by
  have hr0:=hr r List.mem_cons_self
  have hrow:(aBp M r).length=m:=by
   unfold aBp
   rw[List.getD_eq_getElem?_getD,List.getElem?_eq_getElem (by have:=hM.1;omega)]
   exact hM.2.1 _ (List.getElem_mem _)
  have ih:=aQe hm hM rs (by simp at hl;omega) (fun x hx=>hr x (List.mem_cons_of_mem _ hx))
  refine Ep.up ?_
  simp only[aAm.f]
  have e:rd (r::rs) 0=r:=rfl
  refine Ep.neg (by rw[List.length_cons];omega) (Ep.pos (by rw[List.length_cons];omega) (Ep.pos (by rw[e];exact hr0.1) (Ep.pos (by rw[e,hM.1];exact hr0.2) ?_)))
  rw[e,hrow]
  refine(aOn hm hM hr0 (by simp at hl;omega) hb ih m 0 0 1 (by omega) (Or.inl rfl) (by omega)).mono fun v hv=>?_
  rw[hv,show (aF9 b 0).length=0 from rfl]
  simp only[Nat.sub_zero,Nat.zero_add,Int.zero_add,Int.one_mul]
  rfl
theorem aOk {m:Nat} (hm:m≤5) {M:List (List Int)} (hM:aLt m M):∀ (d i:Nat),i+d=m→Ep (fun k=>aBh.l0 k M M (m:Int) (i:Int)) (·=true):=by
 intro d
 induction d with
 | zero =>
  intro i hi
  refine Ep.up ?_
  simp only[aBh.l0]
  exact Ep.neg (by omega) (Ep.now rfl)
 | succ d ih =>
  intro i hi
  have hml:=hM.1
  have hlt:i<M.length:=by omega
  have e:aBp M (i:Int)=M[i]:=by
   unfold aBp
   rw[Int.toNat_natCast,List.getD_eq_getElem?_getD,List.getElem?_eq_getElem hlt]
   rfl
  have h1:=hM.2.1 _ (List.getElem_mem hlt)
  have h2:=hM.2.2 _ (List.getElem_mem hlt)
  refine Ep.up ?_
  simp only[aBh.l0]
  refine Ep.pos (by omega) (Ep.pos (by omega) (Ep.pos (by omega) (Ep.pos (by rw[e];omega) ?_)))
  rw[e]
  refine Ep.bind (aG5 _ _ _ (by omega)) ?_
  rintro _ rfl
  refine Ep.pos (decide_eq_true fun x hx=>by have:=h2 x hx;omega) ?_
  rw[aBw (by omega)]
  exact ih (i+1) (by omega)
theorem aLa {m:Nat} (hm:m≤5) {M:List (List Int)} (hM:aLt m M):Ep (fun k=>aBh.f k M) (·=true):=by
 simp only[aBh.f]
 have hml:=hM.1
 refine Ep.neg (by omega) ?_
 rw[hml]
 exact aOk hm hM m 0 (by omega)
def aHz (m:Nat):List Int:=(List.range m).map fun j:Nat=>(j:Int)
theorem aIk {m:Nat} (hm:m≤5) {M:List (List Int)} (hM:aLt m M):Ep (fun k=>aBl.f k M) (·=aFm M (aHz m) (aHz m)):=by
 simp only[aBl.f]
 refine Ep.bind (aLa hm hM) ?_
 rintro _ rfl
 refine Ep.pos rfl ?_
 obtain⟨h1,h2,h3,h4⟩:=aV1 (i:=m) (by omega)
 rw[hM.1,h2]
 refine Ep.bind (aSg h4) ?_
 rintro _ rfl
 rw[h1]
 have hpos:0<2^m:=Nat.pow_pos (by omega)
 refine Ep.bind (aQe hm hM _ (by simp;exact hm) (fun r hr=>?_) (2^m-1) (by omega)) ?_
 ·obtain⟨j,hj,rfl⟩:=List.mem_map.1 hr
  have:=List.mem_range.1 hj
  omega
 ·rintro _ rfl
  rw[h1]
  exact Ep.now rfl
theorem aPw {n q:Nat} (hq:q<n) {es:List E} (hel:es.length≤12):aLt (n-1) (aNg n es q):=by
 refine⟨aS1 hq es,fun r hr=>?_,fun r hr x hx=>?_⟩
 ·unfold aNg at hr
  obtain⟨v,_,rfl⟩:=List.mem_map.1 hr
  rw[List.length_map,aJs hq]
 ·unfold aNg at hr
  obtain⟨v,_,rfl⟩:=List.mem_map.1 hr
  obtain⟨w,_,rfl⟩:=List.mem_map.1 hx
  exact aUf hel _ _
def vAt (vs:List Int) (i:Int):Int:=vs.getD i.toNat 0
theorem aS2 {n q:Nat} (hq:q<n) (es:List E) {r c:Int} (hr:0≤r∧r<((n-1:Nat):Int)) (hc:0≤c∧c<((n-1:Nat):Int)):ent (aNg n es q) r c=aK3 es (vAt (vsL n q) r) (vAt (vsL n q) c):=by
 have hl:=aJs hq
 unfold ent aNg rd vAt
 rw[getD_map (fun r=>(vsL n q).map fun c=>aK3 es r c) (vsL n q) r.toNat 0 [] (by omega),getD_map (fun c=>aK3 es _ c) (vsL n q) c.toNat 0 0 (by omega)]
theorem aLd {M:List (List Int)} {A:Int→Int→Int} {v:Int→Int}:∀ (rs cs:List Int),(∀ r∈rs,∀ c∈cs,ent M r c=A (v r) (v c))→aFm M rs cs=aYk (rs.map v) (cs.map fun c r=>A r (v c))
 | [],cs,_=>rfl
 | r::rs,cs,h=>by
  show (alt cs.length fun i=>ent M r (cs.getD i 0)*aFm M rs (cs.eraseIdx i))=alt (cs.map fun c r=>A r (v c)).length fun i=>((cs.map fun c r=>A r (v c)).getD i z0) (v r)*aYk (rs.map v) ((cs.map fun c r=>A r (v c)).eraseIdx i)
  rw[List.length_map]
  refine aIn fun i hi=>?_
  rw[getD_map (fun c r=>A r (v c)) cs i 0 z0 hi,map_eraseIdx,aLd rs (cs.eraseIdx i) fun r' hr' c hc=>h r' (List.mem_cons_of_mem _ hr') c (List.mem_of_mem_eraseIdx hc),h r List.mem_cons_self _ (aSi 0 hi)]
theorem aHy {m:Nat} {x:Int}:x∈aHz m↔0≤x∧x<m:=by
 unfold aHz
 rw[List.mem_map]
 constructor
 ·rintro⟨j,hj,rfl⟩
  have:=List.mem_range.1 hj
  omega
 ·exact fun h=>⟨x.toNat,List.mem_range.2 (by omega),by omega⟩
theorem aRq (vs:List Int):(aHz vs.length).map (vAt vs)=vs:=by
 unfold aHz
 rw[List.map_map]
 refine List.ext_getElem (by simp) fun i h1 h2=>?_
 simp[vAt,List.getD,h2]
theorem aNf {n q:Nat} (hq:q<n) (es:List E):aFm (aNg n es q) (aHz (n-1)) (aHz (n-1))=aMr es (vsL n q):=by
 rw[aLd (A:=aK3 es) (v:=vAt (vsL n q)) _ _ fun r hr c hc=>aS2 hq es (aHy.1 hr) (aHy.1 hc)]
 unfold aMr
 have e:=aRq (vsL n q)
 rw[aJs hq]at e
 have e2:(aHz (n-1)).map (fun (c r:Int)=>aK3 es r (vAt (vsL n q) c))=((aHz (n-1)).map (vAt (vsL n q))).map fun c r=>aK3 es r c:=by rw[List.map_map];rfl
 rw[e2,e]
theorem aIy {n:Nat} {es:List E} (hg:GOk (n:Int) es):Ep (fun k=>aCv.f k (n:Int) es) (·=aMr es (vsL n 0)):=by
 have hG:=hg.1
 unfold EsOk at hG
 simp only[aCv.f]
 refine Ep.bind0 (aG0 _ _) ?_
 rw[gOk_iff.2 hg]
 refine Ep.pos rfl (Ep.bind (aXb hg (q:=0) (by omega)) ?_)
 rintro _ rfl
 refine Ep.bind (aIk (by omega) (aPw (q:=0) (by omega) hG.2.2.1)) ?_
 rintro _ rfl
 rw[aNf (by omega)]
 exact Ep.now rfl
theorem aMe {n:Nat} (es:List E) (a:Int) {v:Nat} (hv:v<n):(aF1 n es a).take (v+1)=(aF1 n es a).take v++[aK3 es a (v:Int)]:=by
 rw[List.take_succ_eq_append_getElem (by unfold aF1;rw[aJx];exact hv)]
 unfold aF1 aRi
 simp
theorem aHh (n:Nat) (es:List E) (a:Int):(aF1 n es a).length=n:=by unfold aF1;rw[aJx]
theorem aOc {n:Nat} {es:List E} (hes:∀ e∈es,EOk n e) (hel:es.length≤12) (hn:n≤6) {M:List (List Int)} (hM:M.length≤6) {v:Nat} (hv:v<n) {Q:List (List Int)→Prop}
  (hQ:Ep (fun k=>aAq.l0 k (M++[aF1 n es (v:Int)]) ((v+1:Nat):Int) (n:Int) es) Q):∀ (d i:Nat),i+d=n →
  Ep (fun k=>aAq.l1 k M (v:Int) ((aF1 n es (v:Int)).take i) (i:Int) (n:Int) es) Q:=by
 intro d
 induction d with
 | zero =>
  intro i hi
  refine Ep.up ?_
  simp only[aAq.l1]
  refine Ep.neg (by omega) (Ep.pos (by omega) ?_)
  rw[aBw (by omega),List.take_of_length_le (by rw[aHh];omega)]
  exact hQ
 | succ d ih =>
  intro i hi
  have h:=ih (i+1) (by omega)
  rw[aMe es _ (by omega)]at h
  have hl:((aF1 n es (v:Int)).take i).length≤6:=by rw[List.length_take,aHh];omega
  refine Ep.up ?_
  simp only[aAq.l1]
  refine Ep.pos (by omega) ?_
  rw[aBw (by omega)]
  by_cases c:v=i
  ·refine Ep.pos (by omega) (Ep.bind (aM6 _ es _ (by omega)) ?_)
   rintro _ rfl
   refine Ep.pos (by omega) ?_
   rw[aLz ⟨by omega,by omega⟩]
   have e:aK3 es (v:Int) (i:Int)=val es (v:Int):=by
    unfold aK3
    rw[if_pos (by omega)]
   rw[e]at h
   exact h
  ·refine Ep.neg (by omega) (Ep.bind (aNb _ es hes hel _ _ ⟨by omega,by omega⟩ ⟨by omega,by omega⟩) ?_)
   rintro _ rfl
   have hm0:=aEe es (v:Int) (i:Int)
   have hm1:=aGo es (v:Int) (i:Int)
   refine Ep.pos (by omega) ?_
   have e:aK3 es (v:Int) (i:Int)=- mult es (v:Int) (i:Int):=by
    unfold aK3
    rw[if_neg (by omega)]
   rw[e]at h
   rw[aC5 (by omega) (by omega)]
   exact h
theorem aOd {n:Nat} {es:List E} (hes:∀ e∈es,EOk n e) (hel:es.length≤12) (hn:n≤6):∀ (d v:Nat),v+d=n→Ep (fun k=>aAq.l0 k ((aK4 n es).take v) (v:Int) (n:Int) es) (·=aK4 n es):=by
 intro d
 induction d with
 | zero =>
  intro v hv
  refine Ep.up ?_
  simp only[aAq.l0]
  refine Ep.neg (by omega) (Ep.now ?_)
  rw[List.take_of_length_le (by rw[aHb];omega)]
 | succ d ih =>
  intro v hv
  have h1:=ih (v+1) (by omega)
  rw[aL7 es (by omega)]at h1
  refine Ep.up ?_
  simp only[aAq.l0]
  refine Ep.pos (by omega) ?_
  exact aOc hes hel hn (by rw[List.length_take];omega) (by omega) h1 n 0 (by omega)
theorem aTy {n:Nat} {es:List E} (hg:GOk (n:Int) es):Ep (fun k=>aAq.f k (n:Int) es) (·=aK4 n es):=by
 have hG:=hg.1
 unfold EsOk at hG
 simp only[aAq.f]
 refine Ep.bind (aFv _ _) ?_
 rintro _ rfl
 refine Ep.pos (gOk_iff.2 hg) ?_
 have:=aOd (n:=n) hG.2.2.2 hG.2.2.1 (by omega) n 0 (by omega)
 simpa using this
theorem aWz {n:Nat} {es:List E} (hg:GOk (n:Int) es) {q:Nat} (hq:q<n):Ep (fun k=>aB5.f k (n:Int) es (q:Int)) (·=aNg n es q):=by
 have hG:=hg.1
 unfold EsOk at hG
 simp only[aB5.f]
 refine Ep.bind (aFv _ _) ?_
 rintro _ rfl
 refine Ep.pos (gOk_iff.2 hg) ?_
 rw[aC5 (x:=(n:Int)-1) (by omega) (by omega)]
 refine Ep.bind0 (aFi _ _ _) ?_
 refine Ep.pos (by simp;omega) ?_
 refine Ep.bind (aTy hg) ?_
 rintro _ rfl
 have hr:∀ r∈aK4 n es,r.length=n:=fun r hr=>by
  unfold aK4 at hr
  obtain⟨i,_,rfl⟩:=List.mem_map.1 hr
  exact aHh n es _
 refine Ep.pos (fun r h=>by rw[hr r h];omega) ?_
 have e:redF (q:Int) (aK4 n es)=some (aNg n es q):=by
  unfold redF
  rw[if_pos,Int.toNat_natCast,aNo]
  exact⟨by omega,by omega,by rw[aHb];omega,fun r h=>by rw[hr r h];omega⟩
 exact Ep.congr (fun _=>e) (Ep.now rfl)
theorem aX0 {m:Nat} {M:List (List Int)} (hM:aLt m M) {i:Nat} (hi:i<m):aBp M (i:Int)∈M:=by
 unfold aBp
 rw[Int.toNat_natCast,List.getD_eq_getElem?_getD,List.getElem?_eq_getElem (by have:=hM.1;omega)]
 exact List.getElem_mem _
theorem aOa {m:Nat} (hm:m≤5) {M:List (List Int)} (hM:aLt m M) {i:Nat} (hi:i<m) {r:List Int} (hr:r∈M) (hn:Ep (fun k=>aB1.l0 k M M (m:Int) ((i+1:Nat):Int)) (·=true)) :
  ∀ (d j:Nat),j+d=m→Ep (fun k=>aB1.l1 k M M (m:Int) (i:Int) r (m:Int) (j:Int)) (·=true):=by
 have hl:=hM.2.1 r hr
 intro d
 induction d with
 | zero =>
  intro j hj
  refine Ep.up ?_
  simp only[aB1.l1]
  refine Ep.neg (by omega) ?_
  rw[aBw (by omega)]
  exact hn
 | succ d ih =>
  intro j hj
  have hb:=aX2 (hM.2.2 r hr) (j:Int)
  refine Ep.up ?_
  simp only[aB1.l1]
  refine Ep.pos (by omega) (Ep.pos (by omega) (Ep.pos (by omega) (Ep.bind0 (aFi _ _ _) (Ep.pos (by simp;omega) ?_))))
  rw[aBw (by omega)]
  exact ih (j+1) (by omega)
theorem aOb {m:Nat} (hm:m≤5) {M:List (List Int)} (hM:aLt m M):∀ (d i:Nat),i+d=m→Ep (fun k=>aB1.l0 k M M (m:Int) (i:Int)) (·=true):=by
 have hM1:=hM.1
 intro d
 induction d with
 | zero =>
  intro i hi
  refine Ep.up ?_
  simp only[aB1.l0]
  exact Ep.neg (by omega) (Ep.now rfl)
 | succ d ih =>
  intro i hi
  have hr:=aX0 hM (i:=i) (by omega)
  have hl:=hM.2.1 _ hr
  refine Ep.up ?_
  simp only[aB1.l0]
  refine Ep.pos (by omega) (Ep.pos (by omega) (Ep.pos (by omega) (Ep.pos (by omega) ?_)))
  rw[hl]
  exact aOa hm hM (by omega) hr (ih (i+1) (by omega)) m 0 (by omega)
theorem aKo {m:Nat} (hm:m≤5) {M:List (List Int)} (hM:aLt m M):Ep (fun k=>aB1.f k M) (·=true):=by
 have hM1:=hM.1
 simp only[aB1.f]
 refine Ep.neg (by omega) ?_
 rw[hM1]
 exact aOb hm hM m 0 (by omega)
theorem aOf {m:Nat} (hm:m≤5) {M:List (List Int)} (hM:aLt m M) {r:Int} {rs:List Int} (hr:0≤r∧r<m) (hrs:rs.length≤4) {cs:List Int} (hcs:cs.length≤6) (hc:∀ c∈cs,0≤c∧c<(m:Int))
  (ih:∀ cs':List Int,cs'.length≤6→(∀ c∈cs',0≤c∧c<(m:Int))→Ep (fun k=>aB2.f k M rs cs') (·=aFm M rs cs')) :
  ∀ (d p:Nat) (s σ:Int),p+d=cs.length→(σ=1∨σ=-1)→(-(p*23219011584:Int)≤s∧s≤p*23219011584) →
   Ep (fun k=>aB2.l0 k M (r::rs) cs s σ cs (cs.length:Int) (p:Int))
    (·=s+σ*alt (cs.length-p) fun i=>ent M r (cs.getD (p+i) 0)*aFm M rs (cs.eraseIdx (p+i))):=by
 have hM1:=hM.1
 have hrow:(aBp M r).length=m:=by
  unfold aBp
  rw[List.getD_eq_getElem?_getD,List.getElem?_eq_getElem (by have:=hM.1;omega)]
  exact hM.2.1 _ (List.getElem_mem _)
 intro d
 induction d with
 | zero =>
  intro p s σ hp hσ hs
  refine Ep.up ?_
  simp only[aB2.l0]
  refine Ep.neg (by omega) (Ep.now ?_)
  rw[show cs.length-p=0 by omega]
  simp[alt]
 | succ d ihd =>
  intro p s σ hp hσ hs
  have hlt:p<cs.length:=by omega
  have e0:rd (r::rs) 0=r:=rfl
  have ec:rd cs (p:Int)=cs[p]:=by
   rw[aEh,List.getD_eq_getElem?_getD,List.getElem?_eq_getElem hlt]
   rfl
  have hcp:=hc _ (List.getElem_mem hlt)
  have eg:cs.getD p 0=cs[p]:=by
   rw[List.getD_eq_getElem?_getD,List.getElem?_eq_getElem hlt]
   rfl
  have hent:rd (aBp M r) (cs[p])=ent M r (cs.getD p 0):=by rw[eg];rfl
  have hbd:=hM.ent r (cs.getD p 0)
  have hle:(cs.eraseIdx p).length≤6:=by rw[List.length_eraseIdx];split<;>omega
  have hdb:=aT7 hM (rs:=rs) (cs:=cs.eraseIdx p) (by omega) hle
  have hsplit:cs.length-p=(cs.length-(p+1))+1:=by omega
  have hneg:wrap64 (-σ)=-σ:=aC5 (by omega) (by omega)
  refine Ep.up ?_
  simp only[aB2.l0]
  rw[e0,ec,hent,hneg,aBw (by omega)]
  refine Ep.pos (by omega) (Ep.pos (by omega) (Ep.pos (by omega) (Ep.pos (by rw[List.length_cons];omega) (Ep.pos (by omega) (Ep.pos (by omega) (Ep.pos (by omega) (Ep.pos (by omega) ?_)))))))
  rw[hsplit,aLk _ (fun i=>ent M r (cs.getD i 0)*aFm M rs (cs.eraseIdx i))]
  by_cases hz:ent M r (cs.getD p 0)=0
  ·refine Ep.pos hz ?_
   refine(ihd (p+1) s (-σ) (by omega) (by omega) (by omega)).mono fun v hv=>?_
   rw[hv,hz,Int.zero_mul,Int.zero_sub,Int.mul_neg,Int.neg_mul]
  ·refine Ep.neg hz (Ep.bind0 rfl (Ep.pos (by omega) (Ep.pos (by simp only[List.length_nil,List.length_take];omega) (Ep.bind0 rfl (Ep.pos (by omega) (Ep.pos (by omega) (Ep.pos (by simp only[List.nil_append,List.length_take,List.length_drop];omega) (Ep.pos (by rw[List.length_cons];omega) ?_))))))))
   rw[List.nil_append,Int.toNat_natCast,Int.toNat_natCast,← List.eraseIdx_eq_take_drop_succ,show (r::rs).drop 1=rs from rfl]
   refine Ep.bind (ih _ hle fun c h=>hc c (List.mem_of_mem_eraseIdx h)) ?_
   rintro _ rfl
   have hprod:=aQ4 hbd hdb
   have e5:wrap64 (σ*ent M r (cs.getD p 0))=σ*ent M r (cs.getD p 0):=by
    rcases hσ with rfl|rfl
    ·exact aC5 (by omega) (by omega)
    ·exact aC5 (by omega) (by omega)
   have e6:σ*ent M r (cs.getD p 0)*aFm M rs (cs.eraseIdx p)=σ*(ent M r (cs.getD p 0)*aFm M rs (cs.eraseIdx p)):=Int.mul_assoc _ _ _
   have hb2:-(23219011584:Int)≤σ*(ent M r (cs.getD p 0)*aFm M rs (cs.eraseIdx p))∧σ*(ent M r (cs.getD p 0)*aFm M rs (cs.eraseIdx p))≤23219011584:=by
    rcases hσ with rfl|rfl<;>omega
   rw[e5,e6]
   have e7:wrap64 (σ*(ent M r (cs.getD p 0)*aFm M rs (cs.eraseIdx p)))=σ*(ent M r (cs.getD p 0)*aFm M rs (cs.eraseIdx p)):=aC5 (by omega) (by omega)
   have e8:wrap64 (s+σ*(ent M r (cs.getD p 0)*aFm M rs (cs.eraseIdx p)))=s+σ*(ent M r (cs.getD p 0)*aFm M rs (cs.eraseIdx p)):=aC5 (by omega) (by omega)
   rw[e7,e8]
   refine(ihd (p+1) _ (-σ) (by omega) (by omega) (by omega)).mono fun v hv=>?_
   rw[hv,Int.mul_sub,Int.neg_mul]
   omega
theorem aPr {m:Nat} (hm:m≤5) {M:List (List Int)} (hM:aLt m M):∀ (rs:List Int),rs.length≤5→(∀ r∈rs,0≤r∧r<(m:Int))→∀ cs:List Int,cs.length≤6→(∀ c∈cs,0≤c∧c<(m:Int))→Ep (fun k=>aB2.f k M rs cs) (·=aFm M rs cs)
 | [],_,_,cs,_,_=>by
  refine Ep.up ?_
  simp only[aB2.f]
  exact Ep.pos rfl (Ep.now rfl)
 | r::rs,hl,hr,cs,hcl,hc=>by
  have hr0:=hr r List.mem_cons_self
  have ih:=aPr hm hM rs (by simp at hl;omega) (fun x hx=>hr x (List.mem_cons_of_mem _ hx))
  refine Ep.up ?_
  simp only[aB2.f]
  refine Ep.neg (by rw[List.length_cons];omega) ?_
  refine(aOf hm hM hr0 (by simp at hl;omega) hcl hc ih cs.length 0 0 1 (by omega) (Or.inl rfl) (by omega)).mono fun v hv=>?_
  rw[hv]
  simp only[Nat.sub_zero,Nat.zero_add,Int.zero_add,Int.one_mul]
  rfl
theorem aK0 {α:Type} [BEq α] [LawfulBEq α]:∀ {l m:List α},l.Nodup→(∀ x∈l,x∈m)→l.length≤m.length
 | [],_,_,_=>Nat.zero_le _
 | a::l,m,h,hs=>by
  have ha:=hs a List.mem_cons_self
  rw[List.nodup_cons]at h
  have:=aK0 (m:=m.erase a) h.2 (fun x hx=>(List.mem_erase_of_ne (show x≠a by intro e;subst e;exact h.1 hx)).2 (hs x (List.mem_cons_of_mem _ hx)))
  rw[List.length_erase_of_mem ha]at this
  have:=List.length_pos_of_mem ha
  rw[List.length_cons]
  omega
def upG (m:Nat):List Int:=(List.range m).map fun j:Nat=>(j:Int)
theorem aJt {m:Nat} {x:Int}:x∈upG m↔0≤x∧x<m:=by
 unfold upG
 rw[List.mem_map]
 constructor
 ·rintro⟨j,hj,rfl⟩
  rw[List.mem_range]at hj
  omega
 ·rintro⟨h0,h1⟩
  exact⟨x.toNat,by rw[List.mem_range];omega,by omega⟩
theorem aPf (m:Nat):(upG m).length=m:=by simp[upG]
theorem aPe (m:Nat):(upG m).Nodup:=by
 unfold upG
 rw[List.Nodup,List.pairwise_map]
 exact List.nodup_range.imp (fun h e=>h (by omega))
theorem aX5 {n:Nat} {S:List Int} (h:S.length<n):∃ v:Int,(0≤v∧v<n)∧v∉S:=by
 apply Classical.byContradiction
 intro hc
 have:=aK0 (aPe n) (m:=S) (fun x hx=>Classical.byContradiction fun hx2=>hc ⟨x,aJt.1 hx,hx2⟩)
 rw[aPf]at this
 omega
theorem aXu {n:Nat} {S:List Int} (hn:S.Nodup) (hr:∀ v∈S,0≤v∧v<(n:Int)) (h:S.length=n) {v:Int} (h0:0≤v) (h1:v<n):v∈S:=by
 apply Classical.byContradiction
 intro hv
 have:=aK0 (l:=v::S) (m:=upG n) (List.nodup_cons.2 ⟨hv,hn⟩) (fun x hx=>by
  rw[aJt]
  rcases List.mem_cons.1 hx with rfl|hx
  ·exact⟨h0,h1⟩
  ·exact hr x hx)
 rw[aPf,List.length_cons]at this
 omega
theorem aGt {es:List E} {l m:List Int} (h:∀ a∈l,a∈m):∀ e∈aCf es l,e∈aCf es m:=by
 intro e he
 unfold aCf at he ⊢
 obtain⟨k,hk,rfl⟩:=List.mem_map.1 he
 exact List.mem_map.2 ⟨k,h k hk,rfl⟩
theorem grow {n:Nat} {es:List E} {A:List Int} (hes:∀ e∈aCf es A,EOk n e) (hj:aEo n (aCf es A)):∀ k:Nat,1≤k→k≤n →
  ∃ S l:List Int,S.length=k∧S.Nodup∧(∀ v∈S,0≤v∧v<(n:Int))∧(0:Int)∈S∧l.length+1=k∧l.Nodup∧(∀ a∈l,a∈A)∧(∀ v∈S,aFe (aCf es l) 0 v)∧∀ a∈l,(es.getD a.toNat ⟨0,0⟩).f0∈S∧(es.getD a.toNat ⟨0,0⟩).f1∈S:=by
 intro k
 induction k with
 | zero=>intro h;omega
 | succ k ih =>
  intro _ hk
  by_cases h0:k=0
  ·subst h0
   refine⟨[0],[],rfl,List.nodup_cons.2 ⟨List.not_mem_nil,List.nodup_nil⟩,?_,List.mem_singleton.2 rfl,rfl,List.nodup_nil,fun a ha=>absurd ha List.not_mem_nil,?_,fun a ha=>absurd ha List.not_mem_nil⟩
   ·intro v hv
    rw[List.mem_singleton.1 hv]
    omega
   ·intro v hv
    rw[List.mem_singleton.1 hv]
    exact aFe.refl
  ·obtain⟨S,l,h1,h2,h3,h4,h5,h6,h7,h8,h9⟩:=ih (by omega) (by omega)
   obtain⟨v,hv,hvS⟩:=aX5 (n:=n) (S:=S) (by omega)
   have hx:∃ a b,a∈S∧Adj (aCf es A) a b∧b∉S:=by
    apply Classical.byContradiction
    intro hc
    exact hvS ((hj v hv.1 hv.2).closed (S:=fun x=>x∈S) (fun a b ha hab=>Classical.byContradiction fun hb=>hc ⟨a,b,ha,hab,hb⟩) h4)
   obtain⟨a,b,ha,hab,hb⟩:=hx
   obtain⟨e,he,hend⟩:=hab
   have hok:=hes e he
   unfold EOk at hok
   unfold aCf at he
   obtain⟨j,hj2,rfl⟩:=List.mem_map.1 he
   have hjl:j∉l:=by
    intro hjl
    have:=h9 j hjl
    rcases hend with ⟨p,q⟩|⟨p,q⟩
    ·exact hb (q▸this.2)
    ·exact hb (p▸this.1)
   have hsub:∀ x∈l,x∈j::l:=fun x hx=>List.mem_cons_of_mem _ hx
   refine⟨b::S,j::l,by rw[List.length_cons];omega,List.nodup_cons.2 ⟨hb,h2⟩,?_,List.mem_cons_of_mem _ h4,by rw[List.length_cons];omega,List.nodup_cons.2 ⟨hjl,h6⟩,?_,?_,?_⟩
   ·intro x hx
    rcases List.mem_cons.1 hx with rfl|hx
    ·rcases hend with ⟨p,q⟩|⟨p,q⟩
     ·rw[← q];omega
     ·rw[← p];omega
    ·exact h3 x hx
   ·intro x hx
    rcases List.mem_cons.1 hx with rfl|hx
    ·exact hj2
    ·exact h7 x hx
   ·intro x hx
    rcases List.mem_cons.1 hx with rfl|hx
    ·refine((h8 a ha).sub (aGt hsub)).trans (aFe.one ⟨es.getD j.toNat ⟨0,0⟩,?_,hend⟩)
     exact List.mem_map.2 ⟨j,List.mem_cons_self,rfl⟩
    ·exact(h8 x hx).sub (aGt hsub)
   ·intro x hx
    rcases List.mem_cons.1 hx with rfl|hx
    ·rcases hend with ⟨p,q⟩|⟨p,q⟩
     ·rw[p,q]
      exact⟨List.mem_cons_of_mem _ ha,List.mem_cons_self⟩
     ·rw[p,q]
      exact⟨List.mem_cons_self,List.mem_cons_of_mem _ ha⟩
    ·exact⟨List.mem_cons_of_mem _ (h9 x hx).1,List.mem_cons_of_mem _ (h9 x hx).2⟩
theorem aYz {l:List Int} (h:l.Pairwise (·<·)):Up l l.length:=fun j h1 _=>List.pairwise_iff_getElem.1 h j (j+1) (by omega) h1 (by omega)
theorem aTr {n:Nat} (hn:1≤n) {es:List E} {A:List Int} (hA:∀ a∈A,0≤a∧a<(es.length:Int)) (hg:GOk n es) (hj:aEo n (aCf es A)):∃ l:List Int,aFl n es l∧(∀ a∈l,a∈A)∧l.Pairwise (·<·):=by
 have hes:∀ e∈aCf es A,EOk n e:=by
  intro e he
  unfold aCf at he
  obtain⟨k,hk,rfl⟩:=List.mem_map.1 he
  have:=hA k hk
  rw[List.getD_eq_getElem?_getD,List.getElem?_eq_getElem (by omega)]
  exact hg.1.2.2.2 _ (List.getElem_mem _)
 obtain⟨S,l,h1,h2,h3,h4,h5,h6,h7,h8,h9⟩:=grow hes hj n hn (Nat.le_refl _)
 have hp:(l.mergeSort (fun a b=>decide (a≤b))).Perm l:=List.mergeSort_perm l _
 have hs:(l.mergeSort (fun a b=>decide (a≤b))).Pairwise (·≤·):=by
  have h:=List.pairwise_mergeSort (le:=fun a b:Int=>decide (a≤b)) (fun a b c h1 h2=>by simp at *;omega) (fun a b=>by simp;omega) l
  exact h.imp (fun h=>by simpa using h)
 generalize l.mergeSort (fun a b=>decide (a≤b))=m at hp hs
 have hm:∀ a∈m,a∈A:=fun a ha=>h7 a (hp.mem_iff.1 ha)
 have hlt:m.Pairwise (·<·):=(hs.and (hp.nodup_iff.2 h6)).imp (fun h=>by have:=h.1;have:=h.2;omega)
 refine⟨m,⟨hg,by rw[hp.length_eq];omega,fun j hj2 _=>hA _ (hm _ (List.getElem_mem hj2)),aYz hlt,?_⟩,hm,hlt⟩
 intro v h0 hv
 exact(h8 v (aXu h2 h3 h1 h0 hv)).sub (aGt fun a ha=>hp.mem_iff.2 ha)
theorem aNv {s t:List Int} {n:Nat}:t∈extS s n↔∃ j:Nat,fstS s≤j∧j<n∧t=s++[(j:Int)]:=by
 unfold extS
 rw[List.mem_map]
 constructor
 ·rintro⟨d,hd,rfl⟩
  rw[List.mem_range]at hd
  exact⟨fstS s+d,by omega,by omega,rfl⟩
 ·rintro⟨j,h1,h2,rfl⟩
  exact⟨j-fstS s,by rw[List.mem_range];omega,by rw[show fstS s+(j-fstS s)=j by omega]⟩
theorem aH5 {n:Nat}:∀ {k:Nat} {s:List Int},s∈setsN n k↔s.length=k∧(∀ x∈s,0≤x∧x<(n:Int))∧s.Pairwise (·<·)
 | 0,s=>by
  rw[setsN,List.mem_singleton]
  constructor
  ·rintro rfl
   exact⟨rfl,fun x hx=>absurd hx List.not_mem_nil,List.Pairwise.nil⟩
  ·rintro⟨h,_⟩
   exact List.length_eq_zero_iff.1 h
 | k+1,s=>by
  rw[setsN,List.mem_flatMap]
  constructor
  ·rintro⟨t,ht,hs⟩
   obtain⟨h1,h2,h3⟩:=aH5.1 ht
   obtain⟨j,hj1,hj2,rfl⟩:=aNv.1 hs
   refine⟨by rw[List.length_append,h1];rfl,?_,?_⟩
   ·intro x hx
    rcases List.mem_append.1 hx with hx|hx
    ·exact h2 x hx
    ·rw[List.mem_singleton.1 hx]
     omega
   ·rw[List.pairwise_append]
    refine⟨h3,List.pairwise_singleton _ _,?_⟩
    intro a ha b hb
    rw[List.mem_singleton.1 hb]
    have:=aXg h3 (fun x hx=>(h2 x hx).1) ha
    omega
  ·rintro⟨h1,h2,h3⟩
   have hd:=(List.dropLast_concat_getLast (l:=s) (by intro e;rw[e]at h1;cases h1)).symm
   generalize s.dropLast=t at hd
   generalize s.getLast _=y at hd
   subst hd
   rw[List.length_append]at h1
   rw[List.pairwise_append]at h3
   have hy:=h2 y (List.mem_append.2 (Or.inr List.mem_cons_self))
   refine⟨t,aH5.2 ⟨by simpa using h1,fun x hx=>h2 x (List.mem_append.2 (Or.inl hx)),h3.1⟩,aNv.2 ⟨y.toNat,?_,by omega,by rw[Int.toNat_of_nonneg hy.1]⟩⟩
   rcases aXf t (fun x hx=>(h2 x (List.mem_append.2 (Or.inl hx))).1) with h|⟨x,hx,h⟩
   ·omega
   ·have:=h3.2.2 x hx y List.mem_cons_self
    omega
theorem aYy {l:List Int} (h:Up l l.length):l.Pairwise (·<·):=by
 have key:∀ (d i:Nat) (hi:i+d+1<l.length),l[i]'(by omega)<l[i+d+1]:=by
  intro d
  induction d with
  | zero=>intro i hi;exact h i hi (by omega)
  | succ d ih =>
   intro i hi
   have h1:=ih i (by omega)
   have h2:=h (i+d+1) hi (by omega)
   have e:l[i+(d+1)+1]=l[i+d+1+1]:=rfl
   omega
 rw[List.pairwise_iff_getElem]
 intro i j hi hj hij
 have:=key (j-i-1) i (by omega)
 have e:i+(j-i-1)+1=j:=by omega
 simpa only [e]using this
noncomputable def aGj (n:Int) (es:List E):List (List Int):=(setsN es.length (n.toNat-1)).filter (aHc n es)
theorem aKg {n:Int} {es:List E} {l:List Int}:l∈aGj n es↔aFl n es l:=by
 unfold aGj
 rw[List.mem_filter,aFr]
 constructor
 ·exact fun h=>h.2
 ·intro h
  refine⟨aH5.2 ⟨?_,?_,aYy h.2.2.2.1⟩,h⟩
  ·have:=h.2.1
   omega
  ·intro x hx
   obtain⟨j,hj,rfl⟩:=List.getElem_of_mem hx
   exact h.2.2.1 j hj hj
theorem aRr {n:Nat} {es:List E} (hg:GOk (n:Int) es):aGj (n:Int) es≠[]:=by
 have h1:1≤n:=by have:=hg.1.1;omega
 obtain⟨l,hl,_⟩:=aTr h1 (es:=es) (A:=upG es.length) (fun a ha=>aJt.1 ha) hg (by
  intro v h0 hv
  refine(hg.2.2 v h0 hv).sub ?_
  intro e he
  obtain⟨j,hj,rfl⟩:=List.getElem_of_mem he
  refine List.mem_map.2 ⟨(j:Int),aJt.2 ⟨by omega,by omega⟩,?_⟩
  rw[Int.toNat_natCast,List.getD_eq_getElem?_getD,List.getElem?_eq_getElem hj]
  rfl)
 intro e
 have:=aKg.2 hl
 rw[e]at this
 cases this
theorem aOg (m:Nat) (hm:m≤100):∀ (d i:Nat),i+d=m→Ep (fun k=>aBm.l0 k (m:Int) (aHz i) (i:Int)) (·=aHz m):=by
 intro d
 induction d with
 | zero =>
  intro i hi
  refine Ep.up ?_
  simp only[aBm.l0]
  refine Ep.neg (by omega) (Ep.now ?_)
  rw[show i=m by omega]
 | succ d ih =>
  intro i hi
  have h:=ih (i+1) (by omega)
  have e:aHz (i+1)=aHz i++[(i:Int)]:=by unfold aHz;rw[List.range_succ,List.map_append];rfl
  rw[e]at h
  have hl:(aHz i).length=i:=by unfold aHz;simp
  refine Ep.up ?_
  simp only[aBm.l0]
  refine Ep.pos (by omega) (Ep.pos (by omega) ?_)
  rw[aBw (by omega)]
  exact h
theorem aPs (m:Nat) (hm:m≤100):Ep (fun k=>aBm.f k (m:Int)) (·=aHz m):=by
 simp only[aBm.f]
 exact aOg m hm m 0 (by omega)
theorem aIc {m:Nat} (hm:m≤5) {M:List (List Int)} (hM:aLt m M):Ep (fun k=>aCg.f k M) (·=aFm M (aHz m) (aHz m)):=by
 have hM1:=hM.1
 have hu:(aHz m).length=m:=by unfold aHz;simp
 simp only[aCg.f]
 refine Ep.bind (aKo hm hM) ?_
 rintro _ rfl
 rw[hM1]
 refine Ep.pos rfl (Ep.bind (aPs m (by omega)) ?_)
 rintro _ rfl
 refine Ep.bind (aPs m (by omega)) ?_
 rintro _ rfl
 refine Ep.bind (aPr hm hM (aHz m) (by omega) (fun r hr=>aHy.1 hr) (aHz m) (by omega) (fun r hr=>aHy.1 hr)) ?_
 rintro _ rfl
 exact Ep.now rfl
theorem aIv {n:Nat} {es:List E} (hg:GOk (n:Int) es):Ep (fun k=>aC8.f k (n:Int) es) (·=aMr es (vsL n 0)):=by
 have hG:=hg.1
 unfold EsOk at hG
 simp only[aC8.f]
 refine Ep.bind (aFv _ _) ?_
 rintro _ rfl
 refine Ep.pos (gOk_iff.2 hg) (Ep.bind (aWz hg (q:=0) (by omega)) ?_)
 rintro _ rfl
 refine Ep.bind (aIc (by omega) (aPw (q:=0) (by omega) hG.2.2.1)) ?_
 rintro _ rfl
 rw[aNf (by omega)]
 exact Ep.now rfl
open Classical in
noncomputable def trO (n:Int) (es:List E):List (List Int)×Bool:=if gOk n es=true∧aMr es (vsL n.toNat 0)≤400 then(aGj n es,true) else([],false)
theorem Ep.all {α β:Type} {f:Nat→α→Option β} {g:α→β}:∀ (L:List α),(∀ x∈L,Ep (fun k=>f k x) (·=g x))→∃ K,∀ k,K≤k→∀ x∈L,f k x=some (g x)
 | [],_=>⟨0,fun k _ x hx=>absurd hx List.not_mem_nil⟩
 | a::L,h=>by
  obtain⟨K,hK⟩:=Ep.all L fun x hx=>h x (List.mem_cons_of_mem _ hx)
  obtain⟨_,rfl,J,hJ⟩:=h a List.mem_cons_self
  refine⟨max K J,fun k hk x hx=>?_⟩
  rcases List.mem_cons.1 hx with rfl|hx
  ·exact hJ k (by omega)
  ·exact hK k (by omega) x hx
theorem aKj {n:Nat} {es:List E} (hg:GOk (n:Int) es) (L:List (List Int)) (hL:L.length≤3000000) (hm:∀ s∈L,s∈setsN es.length (n-1)):∀ (d i:Nat),i+d=L.length→Ep (fun k=>aB0.l0 k ((L.take i).filter (aHc (n:Int) es)) L (L.length:Int) (i:Int) (n:Int) es) (·=(L.filter (aHc (n:Int) es),true)):=by
 have hG:=hg.1
 unfold EsOk at hG
 intro d
 induction d with
 | zero =>
  intro i hi
  refine Ep.up ?_
  simp only[aB0.l0]
  refine Ep.neg (by omega) (Ep.now ?_)
  rw[List.take_of_length_le (by omega)]
 | succ d ih =>
  intro i hi
  have h:=ih (i+1) (by omega)
  have hlt:i<L.length:=by omega
  have e:aBp L (i:Int)=L[i]:=by
   unfold aBp
   rw[Int.toNat_natCast,List.getD_eq_getElem?_getD,List.getElem?_eq_getElem hlt]
   rfl
  have hmem:=aH5.1 (hm _ (List.getElem_mem hlt))
  have hr:InR es L[i] L[i].length:=fun j hj _=>hmem.2.1 _ (List.getElem_mem hj)
  have hu:Up L[i] L[i].length:=fun j hj _=>List.pairwise_iff_getElem.1 hmem.2.2 j (j+1) (by omega) hj (by omega)
  have hlen:(L[i].length:Int)=(n:Int)-1:=by have:=hmem.1;omega
  have ht:((L.take i).filter (aHc (n:Int) es)).length≤3000000:=Nat.le_trans (List.length_filter_le _ _) (by rw[List.length_take];omega)
  rw[List.take_succ_eq_append_getElem hlt,List.filter_append]at h
  refine Ep.up ?_
  simp only[aB0.l0]
  refine Ep.pos (by omega) (Ep.pos (by omega) (Ep.pos (by omega) ?_))
  rw[e,aBw (by omega)]
  refine Ep.bind (aPo n (by omega) es L[i] (by omega) hG.2.2.2 hr) ?_
  rintro _ rfl
  rw[aFq hg hlen hr hu]
  by_cases c:aHc (n:Int) es L[i]=true
  ·rw[List.filter_cons_of_pos c]at h
   exact Ep.pos c (Ep.pos (by omega) h)
  ·rw[List.filter_cons_of_neg c,List.filter_nil,List.append_nil]at h
   exact Ep.neg c h
theorem aKk (n:Int) (es:List E):Ep (fun k=>aB0.f k n es) (·=trO n es):=by
 simp only[aB0.f]
 refine Ep.bind (aFv _ _) ?_
 rintro _ rfl
 unfold trO
 by_cases c:gOk n es=true
 ·have hg:=gOk_iff.1 c
  have hG:=hg.1
  unfold EsOk at hG
  obtain⟨m,rfl⟩:=Int.eq_ofNat_of_zero_le (show 0≤n by omega)
  rw[Int.toNat_natCast]
  refine Ep.pos c (Ep.bind (aIv hg) ?_)
  rintro _ rfl
  refine Ep.up ?_
  simp only[aB0.j0]
  by_cases h4:aMr es (vsL m 0)≤400
  ·rw[if_pos ⟨c,h4⟩]
   refine Ep.neg (by simp;omega) ?_
   refine Ep.bind0 (a:=setsN es.length (m-1)) ?_ ?_
   ·rw[aC5 (by omega) (by omega),show (m:Int)-1=((m-1:Nat):Int) by omega]
    unfold aDu.f
    rw[if_pos (by omega),Int.toNat_natCast,Int.toNat_natCast]
   ·have hS:=setsN_len6 (n:=es.length) hG.2.2.1 (k:=m-1) (by omega)
    have h:=aKj hg (setsN es.length (m-1)) (by omega) (fun s hs=>hs) (setsN es.length (m-1)).length 0 (by omega)
    unfold aGj
    rw[Int.toNat_natCast]
    exact h
  ·rw[if_neg (fun h=>h4 h.2)]
   exact Ep.pos (by simp;omega) (Ep.now rfl)
 ·rw[if_neg (fun h=>c h.1)]
  refine Ep.neg c (Ep.up ?_)
  simp only[aB0.j0]
  exact Ep.pos (by first|rfl|trivial|simp) (Ep.now rfl)
end Go.Proofs.Ytnbljcgdgblgoaa.Cf
end
section
namespace Go.Proofs.Ytnbljcgdgblgoaa.Cf
open Go.RowKit Go.Proofs.YtnbljcgdgblgoaaW.PrintWords Go.Proofs.Ytnbljcgdgblgoaa.P
theorem aQy {b:List Int} (hb:b.length≤1048576) {i:Int} (h:Int) (hc:Cur b i) {a:Int} (h0:1≤a):∃ x i' h',aBj.f b i h a=some (x,i',h')∧0≤x∧x<a∧Cur b i':=by
 by_cases h1:a≤256
 ·exact aGc hb h hc h0 h1
 obtain⟨x,i1,h1',e1,x0,x1,hc1⟩:=aG3 hb h hc
 obtain⟨y,i2,h2',e2,y0,y1,hc2⟩:=aG3 hb h1' hc1
 obtain⟨z,i3,h3',e3,z0,z1,hc3⟩:=aG3 hb h2' hc2
 obtain⟨u,i4,h4',e4,u0,u1,hc4⟩:=aG3 hb h3' hc3
 have ew:wrap64 ((wrap64 ((wrap64 ((wrap64 (x*16777216))+(wrap64 (y*65536))))+(wrap64 (z*256))))+u)=x*16777216+y*65536+z*256+u:=by
  rw[aC5 (x:=x*16777216) (by omega) (by omega),aC5 (x:=y*65536) (by omega) (by omega),aC5 (x:=z*256) (by omega) (by omega),aC5 (x:=x*16777216+y*65536) (by omega) (by omega),aC5 (x:=x*16777216+y*65536+z*256) (by omega) (by omega),aC5 (by omega) (by omega)]
 refine⟨Int.tmod (x*16777216+y*65536+z*256+u) a,i4,h4',?_,Int.tmod_nonneg _ (by omega),Int.tmod_lt_of_pos _ (by omega),hc4⟩
 unfold aBj.f
 rw[if_neg (by omega),if_neg h1,e1]
 dsimp only[Option.bind_some]
 rw[e2]
 dsimp only[Option.bind_some]
 rw[e3]
 dsimp only[Option.bind_some]
 rw[e4]
 dsimp only[Option.bind_some]
 rw[if_neg (by omega),ew]
def tri:List E:=[⟨0,1⟩,⟨0,2⟩,⟨1,2⟩]
theorem aPg:GOk 3 tri:=gOk_iff.1 (by decide)
def aIo (r:Int×List E×List Int):Prop:=∃ n:Nat,r.1=n∧2≤n∧n≤5∧GOk (n:Int) r.2.1∧aMr r.2.1 (vsL n 0)≤400∧r.2.2∈aGj (n:Int) r.2.1
theorem aPi {n:Nat} {es:List E} (hg:GOk (n:Int) es) (h:aMr es (vsL n 0)≤400):trO (n:Int) es=(aGj (n:Int) es,true):=by
 unfold trO
 rw[Int.toNat_natCast,if_pos ⟨gOk_iff.2 hg,h⟩]
theorem aWw {n:Nat} {es:List E} (h:¬ aMr es (vsL n 0)≤400):trO (n:Int) es=([],false):=by
 unfold trO
 rw[Int.toNat_natCast,if_neg fun c=>h c.2]
theorem aTp:aMr tri (vsL 3 0)≤400:=by decide
theorem aS8 (b:List Int) (hb:b.length≤1048576):Ep (fun k=>aC1.f k b) aIo:=by
 simp only[aC1.f]
 refine Ep.bind (aQq b hb) ?_
 rintro⟨b',i,h⟩ ⟨rfl,hc⟩
 refine Ep.bind (P:=aLo b' 5) ?_ ?_
 ·simp only[aD9.f]
  refine Ep.bind (aUo hb h hc (by omega) (by omega)) ?_
  intro a ha
  exact Ep.now ha
 ·rintro⟨n',es,i1,h1⟩ ⟨n,hn,h2,h5,hg,hc1⟩
  dsimp only at hn hg hc1 ⊢
  subst hn
  refine Ep.bind (aKk _ _) ?_
  rintro _ rfl
  have pickT:∀ {m:Nat} {l:List E},GOk (m:Int) l→∀ Q:Int×List E×List Int→Prop,(∀ t∈aGj (m:Int) l,Q ((m:Int),l,t))→Ep (fun _:Nat=>(aBj.f b' i1 h1 ((aGj (m:Int) l).length:Int)).bind fun bt=>if 0≤bt.1 then(if bt.1<((aGj (m:Int) l).length:Int) then some ((m:Int),l,aBp (aGj (m:Int) l) bt.1) else none) else none) Q:=by
   intro m l hgl Q hQ
   have hne:=aRr hgl
   have hl0:0<(aGj (m:Int) l).length:=List.length_pos_iff.2 hne
   obtain⟨x,i2,h2',e2,x0,x1,_⟩:=aQy hb h1 hc1 (a:=((aGj (m:Int) l).length:Int)) (by omega)
   refine Ep.bind0 e2 (Ep.pos x0 (Ep.pos x1 (Ep.now (hQ _ ?_))))
   unfold aBp
   rw[List.getD_eq_getElem?_getD,List.getElem?_eq_getElem (show x.toNat<(aGj (m:Int) l).length by omega)]
   exact List.getElem_mem _
  by_cases h4:aMr es (vsL n 0)≤400
  ·rw[aPi hg h4]
   refine Ep.pos rfl ?_
   exact pickT hg aIo fun t ht=>⟨n,rfl,h2,by omega,hg,h4,ht⟩
  ·rw[aWw h4]
   refine Ep.neg (by simp) ?_
   refine Ep.bind0 rfl ?_
   have h3:aMr tri (vsL 3 0)≤400:=aTp
   refine Ep.bind (P:=(·=(aGj ((3:Nat):Int) tri,true))) ((aKk 3 tri).mono fun r hr=>hr.trans (aPi (n:=3) aPg h3)) ?_
   rintro _ rfl
   exact pickT (m:=3) aPg aIo fun t ht=>⟨3,rfl,by omega,by omega,aPg,h3,ht⟩
theorem aU2 (a b:List Int) (hl:a.length=b.length) (hb:a.length≤1048576):∀ (d i:Nat),i+d=a.length→Ep (fun k=>aCb.l0 k b a (a.length:Int) (i:Int)) (·=decide (a.drop i=b.drop i)):=by
 intro d
 induction d with
 | zero =>
  intro i hi
  refine Ep.up ?_
  simp only[aCb.l0]
  refine Ep.neg (by omega) (Ep.now ?_)
  rw[List.drop_of_length_le (by omega),List.drop_of_length_le (by omega)]
  rfl
 | succ d ih =>
  intro i hi
  have h1:i<a.length:=by omega
  have h2:i<b.length:=by omega
  refine Ep.up ?_
  simp only[aCb.l0]
  refine Ep.pos (by omega) (Ep.pos (by omega) (Ep.pos (by omega) (Ep.pos (by omega) ?_)))
  rw[aEk h1,aEk h2,aBw (by omega),List.drop_eq_getElem_cons h1,List.drop_eq_getElem_cons h2]
  refine Ep.ite (fun h=>(ih (i+1) (by omega)).mono ?_) (fun h=>Ep.now ?_)
  ·rintro _ rfl
   rw[h]
   simp only[List.cons.injEq,true_and]
  ·rw[eq_comm,decide_eq_false_iff_not]
   intro e
   exact h (List.cons.inj e).1
theorem aU1 (a b:List Int) (hb:a.length≤1048576):Ep (fun k=>aCb.f k a b) (·=decide (a=b)):=by
 simp only[aCb.f]
 refine Ep.ite (fun h=>?_) (fun h=>Ep.now ?_)
 ·simpa using aU2 a b (by omega) hb a.length 0 (by omega)
 ·rw[eq_comm,decide_eq_false_iff_not]
  intro e
  exact h (by rw[e])
theorem aNc {a b:List Int} (h:a=b) (hb:a.length≤1048576):Ep (fun k=>aCb.f k a b) (·=true):=(aU1 a b hb).mono (by rintro _ rfl;simpa using h)
end Go.Proofs.Ytnbljcgdgblgoaa.Cf
end
section
namespace Go.Proofs.Ytnbljcgdgblgoaa.Cf
open Go.RowKit Go.Proofs.YtnbljcgdgblgoaaW.PrintWords
def aZx (t:Option Addr×Nat×Nat):Value:=.slice t.1 t.2.1 t.2.2
def HK:Kd (Option Addr×Nat×Nat):=Kd.scalar aZx (fun _=>rfl)
def kpos {α:Type} (lt:α→α→Bool) (x:α) (Z:List α):Nat→Nat
 | 0=>0
 | k+1=>match Z[k]? with
  | some y=>if lt x y=true then kpos lt x Z k else k+1
  | none=>k+1
def insB {α:Type} (lt:α→α→Bool) (x:α) (Z:List α):List α:=Z.take (kpos lt x Z Z.length)++x::Z.drop (kpos lt x Z Z.length)
def sortB {α:Type} (lt:α→α→Bool) (l:List α) (i:Nat):List α:=(l.take i).foldl (fun Z x=>insB lt x Z) []
theorem sortB_succ {α:Type} (lt:α→α→Bool) {l:List α} {i:Nat} {x:α} (h:l[i]? = some x):sortB lt l (i+1)=insB lt x (sortB lt l i):=by
 unfold sortB
 rw[List.take_add_one,h,List.foldl_append]
 rfl
theorem aQb {α:Type} (lt:α→α→Bool) (x:α) (Z:List α):(insB lt x Z).Perm (x::Z):=by
 unfold insB
 refine List.perm_middle.trans ?_
 rw[List.take_append_drop]
theorem sortB_perm {α:Type} (lt:α→α→Bool) (l:List α):∀ i,i≤l.length→(sortB lt l i).Perm (l.take i)
 | 0,_=>by rw[List.take_zero];exact List.Perm.refl _
 | i+1,h=>by
  rw[sortB_succ lt (List.getElem?_eq_getElem (show i<l.length by omega)),List.take_succ_eq_append_getElem (by omega)]
  exact(aQb lt _ _).trans (((sortB_perm lt l i (by omega)).cons _).trans (List.perm_append_comm (l₁:=[l[i]]) (l₂:=l.take i)))
end Go.Proofs.Ytnbljcgdgblgoaa.Cf
end
section
namespace Go.Proofs.Ytnbljcgdgblgoaa.P
open Go.RowKit Go.Proofs.YtnbljcgdgblgoaaW.PrintWords Go.Proofs.YtnbljcgdgblgoaaW.PrintLast Go.Proofs.YtnbljcgdgblgoaaW.PrintMore
attribute [local go_sem] aCt aCr aDb aDa aCa aC9 aCs aCq
def aBu.cnt (k:Nat) (a0:Int) (es:List S57) (q:Int) (v:Nat):Nat:=if(v:Int)=q then 1 else(mx 1 ((aBb.f k a0 es (v:Int)).getD 0)).toNat
def aBu.pr (k:Nat) (a0:Int) (es:List S57) (q:Int) (x:List Int):Bool:=match aBf.f k a0 es x q with|some r=>decide ((r.length:Int)=a0)|none=>false
abbrev aBu.ok0 (k:Nat) (a0:Int) (es:List S57) (q:Int):Prop:=(0≤a0∧a0≤6)∧∀ v,v<a0.toNat→(aBb.f k a0 es (v:Int)).isSome=true∧0≤(aBb.f k a0 es (v:Int)).getD 0∧(aBb.f k a0 es (v:Int)).getD 0≤24
abbrev aBu.ok1 (k:Nat) (a0:Int) (es:List S57) (q:Int):Prop:=∀ x∈Cf.dfsB (aBu.cnt k a0 es q) a0.toNat 0 [],(aBf.f k a0 es x q).isSome=true
def aBu.f (k:Nat) (a0:Int) (es:List S57) (q:Int):Option (List (List Int)):=if aBu.ok0 k a0 es q∧aBu.ok1 k a0 es q then some ((Cf.dfsB (aBu.cnt k a0 es q) a0.toNat 0 []).filter fun x=>aBu.pr k a0 es q x) else none
theorem aBu.val_up (k:Nat) {a0:Int} {es:List S57} {v:Int} (h:(aBb.f k a0 es v).isSome=true):aBb.f (k+1) a0 es v=aBb.f k a0 es v:=by
 obtain⟨b,hb⟩:=Option.isSome_iff_exists.1 h;rw[hb,aBb.mono _ _ _ k _ hb]
theorem aBu.burn_up (k:Nat) {a0 q:Int} {es:List S57} {x:List Int} (h:(aBf.f k a0 es x q).isSome=true):aBf.f (k+1) a0 es x q=aBf.f k a0 es x q:=by
 obtain⟨b,hb⟩:=Option.isSome_iff_exists.1 h;rw[hb,aBf.mono _ _ _ _ k _ hb]
theorem aBu.box_congr {c d:Nat→Nat}:∀ {n:Nat},(∀ v,v<n→c v=d v)→Cf.boxL c n=Cf.boxL d n
 | 0,_=>rfl
 | n+1,h=>by rw[Cf.boxL,Cf.boxL,aBu.box_congr fun v hv=>h v (by omega),h n (by omega)]
theorem aBu.mono:∀ a0 a1 a2 k,LeO (aBu.f k a0 a1 a2) (aBu.f (k+1) a0 a1 a2):=by
 intro a0 es q k r h;unfold aBu.f at h ⊢;(split at h);(case isFalse=>cases h);rename_i hc;(have e1:Cf.dfsB (aBu.cnt (k+1) a0 es q) a0.toNat 0 []=Cf.dfsB (aBu.cnt k a0 es q) a0.toNat 0 []:=by rw[Cf.dfs_box,Cf.dfs_box];exact aBu.box_congr fun v hv=>by unfold aBu.cnt;rw[aBu.val_up k (hc.1.2 v hv).1]);have h0:aBu.ok0 (k+1) a0 es q:=⟨hc.1.1,fun v hv=>by rw[aBu.val_up k (hc.1.2 v hv).1];exact hc.1.2 v hv⟩;(have h1:aBu.ok1 (k+1) a0 es q:=by unfold aBu.ok1;rw[e1];exact fun x hx=>by rw[aBu.burn_up k (hc.2 x hx)];exact hc.2 x hx);rw[if_pos ⟨h0,h1⟩,← h,e1];(congr 1);(refine List.filter_congr fun x hx=>?_);unfold aBu.pr;rw[aBu.burn_up k (hc.2 x hx)]
def aCh.l0:Nat→List Int→List Int→Int→Int→Option (Bool)
 | 0,_,_,_,_=>none
 | k+1,x1,x7,x8,x9=>if x9<x8 then(if 0≤x9 then(if x9<(x7.length:Int) then(if x9<(x1.length:Int) then(if(rd x7 x9)=(rd x1 x9) then(aCh.l0 k x1 x7 x8 (wrap64 (x9+1))) else(some (decide ((rd x7 x9)<(rd x1 x9))))) else(none)) else(none)) else(none)) else(some false)
def aCh.f (k:Nat) (l0:List Int) (l1:List Int):Option (Bool):=aCh.l0 k l1 l0 (l0.length:Int) 0
theorem aCh.mono_l:∀ k,(∀ y0 y1 y2 y3,LeO (aCh.l0 k y0 y1 y2 y3) (aCh.l0 (k+1) y0 y1 y2 y3))
 | 0=>fun _ _ _ _ r h=>by simp[aCh.l0]at h
 | k+1=>by
  have ih0:=aCh.mono_l k
  ·intro y0 y1 y2 y3
   unfold aCh.l0
   exact zm0
theorem aCh.mono:∀ a0 a1 k,LeO (aCh.f k a0 a1) (aCh.f (k+1) a0 a1):=by
 intro a0 a1 k;have ih0:=aCh.mono_l k;unfold aCh.f;exact zm0
def aDh.lt (k:Nat) (x y:List Int):Bool:=aCh.f k x y==some true
def aDh.f (k:Nat) (l:List (List Int)):Option (List (List Int)):=if l.length≤1000000∧(∀ x∈l,∀ y∈l,(aCh.f k x y).isSome=true) then some (Cf.sortB (aDh.lt k) l l.length) else none
theorem aDh.sort_congr {lt lt':List Int→List Int→Bool} {l:List (List Int)} (h:∀ x∈l,∀ y∈l,lt x y=lt' x y):∀ i,i≤l.length→Cf.sortB lt l i=Cf.sortB lt' l i
 | 0,_=>rfl
 | i+1,hi=>by
  have ih:=aDh.sort_congr h i (by omega)
  rw[Cf.sortB_succ lt (List.getElem?_eq_getElem (show i<l.length by omega)),Cf.sortB_succ lt' (List.getElem?_eq_getElem (show i<l.length by omega)),ih]
  have hm:∀ y∈Cf.sortB lt' l i,y∈l:=fun y hy=>List.mem_of_mem_take ((Cf.sortB_perm lt' l i (by omega)).mem_iff.1 hy)
  generalize Cf.sortB lt' l i=Z at hm
  have hk:∀ k,Cf.kpos lt l[i] Z k=Cf.kpos lt' l[i] Z k:=by
   intro k
   induction k with
   | zero=>rfl
   | succ k ihk =>
    unfold Cf.kpos
    cases hz:Z[k]? with
    | none=>rfl
    | some y=>simp only[h _ (List.getElem_mem _) y (hm y (List.mem_of_getElem? hz)),ihk]
  unfold Cf.insB;rw[hk]
theorem aDh.mono:∀ a0 k,LeO (aDh.f k a0) (aDh.f (k+1) a0):=by
 intro l k r h;unfold aDh.f at h ⊢;(split at h);(case isFalse=>cases h);rename_i hc
 have up:∀ x∈l,∀ y∈l,aCh.f (k+1) x y=aCh.f k x y:=fun x hx y hy=>by
  obtain⟨b,hb⟩:=Option.isSome_iff_exists.1 (hc.2 x hx y hy);rw[hb,aCh.mono _ _ k _ hb]
 rw[if_pos ⟨hc.1,fun x hx y hy=>by rw[up x hx y hy];exact hc.2 x hx y hy⟩,← h];(congr 1);exact aDh.sort_congr (fun x hx y hy=>by unfold aDh.lt;rw[up x hx y hy]) _ (Nat.le_refl _)
def aE3.f (k:Nat) (aD:Int) (aC:List (S57)):Option (Int):=(aC8.f k aD aC).bind fun aW=>(some aW)
theorem aE3.mono:∀ a0 a1 k,LeO (aE3.f k a0 a1) (aE3.f (k+1) a0 a1):=by
 intro a0 a1 k;unfold aE3.f;repeat' first|(with_reducible apply aC8.mono)|(with_reducible exact LeO.refl _)|(with_reducible exact LeO.none _)|(with_reducible refine LeO.ite ?_ ?_)|(with_reducible refine LeO.bind ?_ (fun _=>?_))|apply aC8.mono|exact LeO.none _|refine LeO.ite ?_ ?_|refine LeO.bind ?_ (fun _=>?_)
def aEi.f (k:Nat) (a0:Int) (es:List S57) (q:Int):Option (List (List Int)×Bool) :=
 (aAi.f k a0 es).bind fun t=>if t=true then(aBx.f q 0 (wrap64 (a0-1))).bind fun u=>if u=true then(aE3.f k a0 es).bind fun c=>if c≤400 then(aBu.f k a0 es q).bind fun L=>if 0≤q∧(∀ x∈L,q<(x.length:Int)∧x.length≤1000000)∧L.length≤1000000 then(aDh.f k (L.map fun x=>x.set q.toNat (-1))).bind fun r=>some (r,true) else none else some ([],false) else some ([],false) else some ([],false)
theorem aEi.mono:∀ a0 a1 a2 k,LeO (aEi.f k a0 a1 a2) (aEi.f (k+1) a0 a1 a2):=by
 intro a0 a1 a2 k;unfold aEi.f;exact LeO.bind (aAi.mono _ _ k) fun t=>LeO.ite (LeO.bind (LeO.refl _) fun u=>LeO.ite (LeO.bind (aE3.mono _ _ k) fun c=>LeO.ite (LeO.bind (aBu.mono _ _ _ k) fun _=>LeO.ite (LeO.bind (aDh.mono _ k) fun _=>LeO.refl _) (LeO.refl _)) (LeO.refl _)) (LeO.refl _)) (LeO.refl _)
end Go.Proofs.Ytnbljcgdgblgoaa.P
end
section
namespace Go.Proofs.Ytnbljcgdgblgoaa.Cf
open Go.RowKit Go.Proofs.YtnbljcgdgblgoaaW.PrintWords Go.Proofs.Ytnbljcgdgblgoaa.P
def aLs (es:List E) (q:Int) (v:Nat):Nat:=if(v:Int)=q then 1 else(val es (v:Int)).toNat
def pB (n:Nat) (es:List E) (q:Int) (x:List Int):Bool:=decide ((aHw n es (rd x) q).length=n)
def aW4 (n:Nat) (es:List E) (q:Int):List (List Int):=(boxL (aLs es q) n).filter (pB n es q)
def pkL (n:Nat) (es:List E) (q:Int):List (List Int):=(aW4 n es q).map fun x=>x.set q.toNat (-1)
theorem box_congr {c d:Nat→Nat}:∀ {n:Nat},(∀ v,v<n→c v=d v)→boxL c n=boxL d n
 | 0,_=>rfl
 | n+1,h=>by rw[boxL,boxL,box_congr fun v hv=>h v (by omega),h n (by omega)]
theorem aO1 {c:Nat→Nat} {b q:Nat} (hb:1≤b) (hq:c q≤1):∀ {v:Nat},(∀ u,u<v→c u≤b)→(boxL c v).length≤if q<v then b^(v-1) else b^v
 | 0,_=>by rw[if_neg (by omega)];exact Nat.le_refl _
 | v+1,h=>by
  have ih:=aO1 hb hq (v:=v) fun u hu=>h u (by omega)
  show ((boxL c v).flatMap (extB (c v))).length≤_
  rw[aG2]
  by_cases e:q<v
  ·rw[if_pos e]at ih
   rw[if_pos (by omega)]
   have:=Nat.mul_le_mul ih (h v (by omega))
   rwa[← Nat.pow_succ,show (v-1).succ=v+1-1 by omega]at this
  ·rw[if_neg e]at ih
   by_cases e2:q=v
   ·subst e2
    rw[if_pos (by omega),Nat.add_sub_cancel]
    have:=Nat.mul_le_mul ih hq
    omega
   ·rw[if_neg (by omega),Nat.pow_succ]
    exact Nat.mul_le_mul ih (h v (by omega))
section
variable {n:Nat} {es:List E} {q:Int}
theorem aPc (g:Gr n es q) (v:Int):val es v≤12:=by have:=aN1 es v;have:=g.hel;omega
theorem aSz (g:Gr n es q) {v:Nat} (hv:v<n) (hne:(v:Int)≠q):1≤val es (v:Int):=by
 have:=aTn g.hj g.hq ⟨by omega,by omega⟩ hne
 omega
theorem aUw (g:Gr n es q) (v:Nat):aLs es q v≤12:=by
 unfold aLs
 have:=aPc g (v:Int)
 split<;>omega
theorem aNy (g:Gr n es q) {v:Nat} (hv:v<n):1≤aLs es q v:=by
 unfold aLs
 split
 ·exact Nat.le_refl _
 ·rename_i h
  have:=aSz g hv h
  omega
theorem aXp (g:Gr n es q):(boxL (aLs es q) n).length≤248832:=by
 have hq:=g.hq
 have h6:=g.n6
 have h:=aO1 (c:=aLs es q) (b:=12) (q:=q.toNat) (by omega) (by unfold aLs;rw[if_pos (by omega)];exact Nat.le_refl _) (v:=n) fun u _=>aUw g u
 rw[if_pos (by omega)]at h
 exact Nat.le_trans h (Nat.pow_le_pow_right (n:=12) (by omega) (show n-1≤5 by omega))
theorem aV0 (g:Gr n es q):0<(boxL (aLs es q) n).length:=by
 have key:∀ m,m≤n→0<(boxL (aLs es q) m).length:=by
  intro m
  induction m with
  | zero=>intro _;exact Nat.one_pos
  | succ m ih =>
   intro hm
   show 0<((boxL (aLs es q) m).flatMap (extB (aLs es q m))).length
   rw[aG2]
   exact Nat.mul_pos (ih (by omega)) (aNy g (by omega))
 exact key n (Nat.le_refl _)
theorem aUz (g:Gr n es q) (x:List Int):(aHw n es (rd x) q).length≤n:=(aKa (es:=es) (d:=rd x) g.hq).1.len g.hq
theorem aJy {x:List Int} (h:x∈aW4 n es q):x.length=n∧∀ (j:Nat) (hj:j<x.length),0≤x[j]∧x[j]<(aLs es q j:Int):=boxL_row (List.mem_filter.1 h).1
theorem aNh (g:Gr n es q):(aW4 n es q).length≤248832:=Nat.le_trans (List.length_filter_le _ _) (aXp g)
theorem aU5 {x:List Int} (h:x∈pkL n es q):x.length=n:=by
 obtain⟨y,hy,rfl⟩:=List.mem_map.1 h
 rw[List.length_set]
 exact(aJy hy).1
theorem aU6 (g:Gr n es q):(pkL n es q).length≤248832:=by unfold pkL;rw[List.length_map];exact aNh g
theorem aUg (g:Gr n es q):Ep (fun k=>aA6.f k (n:Int) es q) (·=aW4 n es q):=by
 have h6:=g.n6
 have hel:=g.hel
 obtain⟨K1,hK1⟩:=Ep.all (f:=fun k (v:Nat)=>aAv.f k (n:Int) es (v:Int)) (g:=fun v=>aT0 (n:Int) es (v:Int)) (List.range n) fun v _=>aIj (n:Int) es (v:Int) (by omega)
 obtain⟨K2,hK2⟩:=Ep.all (f:=fun k x=>aAw.f k (n:Int) es x q) (g:=fun x=>aHw n es (rd x) q) (boxL (aLs es q) n) fun x hx=>aNt g x (boxL_row hx).1
 refine⟨_,rfl,max K1 K2,fun k hk=>?_⟩
 have hv:∀ v,v<n→aAv.f k (n:Int) es (v:Int)=some (val es (v:Int)):=fun v hv=>by rw[hK1 k (by omega) v (List.mem_range.2 hv),aLz ⟨by omega,by omega⟩]
 have hb:=hK2 k (by omega)
 have e1:boxL (aA6.cnt k (n:Int) es q) n=boxL (aLs es q) n:=box_congr fun v hv'=>by
  unfold aA6.cnt aLs
  rw[hv v hv']
  rfl
 have hnn:((n:Int)).toNat=n:=Int.toNat_natCast n
 show aA6.f k (n:Int) es q=some (aW4 n es q)
 unfold aA6.f
 rw[if_pos]
 ·rw[hnn,e1]
  congr 1
  refine List.filter_congr fun x hx=>?_
  have hle:=aUz g x
  unfold aA6.pr pB
  rw[hb x hx]
  show (!decide (((aHw n es (rd x) q).length:Int)<(n:Int)))=decide ((aHw n es (rd x) q).length=n)
  by_cases e:(aHw n es (rd x) q).length=n
  ·rw[decide_eq_true e,decide_eq_false (by omega)];rfl
  ·rw[decide_eq_false e,decide_eq_true (by omega)];rfl
 ·refine⟨⟨by omega,fun v hv'=>?_⟩,fun x hx=>?_,?_⟩
  ·rw[hnn]at hv'
   rw[hv v hv']
   have h0:0≤val es (v:Int):=by
    by_cases e:(v:Int)=q
    ·exact aJ4 es _
    ·have:=aSz g hv' e;omega
   have:=aPc g (v:Int)
   exact⟨rfl,by simpa using h0,by simp only[Option.getD_some];omega⟩
  ·rw[hnn,e1]at hx
   rw[hb x hx]
   rfl
  ·rw[hnn,e1]
   exact aV0 g
end
open Classical in
noncomputable def pkO (n:Int) (es:List E) (q:Int):List (List Int)×Bool:=if gOk n es=true∧(0≤q∧q<n)∧aMr es (vsL n.toNat 0)≤400 then(pkL n.toNat es q,true) else([],false)
theorem aXd {n:Nat} {es:List E} (hg:GOk (n:Int) es):Ep (fun k=>aCz.f k (n:Int) es) (·=aMr es (vsL n 0)):=by
 simp only[aCz.f]
 refine Ep.bind (aIy hg) ?_
 rintro _ rfl
 exact Ep.now rfl
theorem aXc (n:Int) (es:List E) (q:Int) (hn:Wf .i64 n):Ep (fun k=>aBa.f k n es q) (·=pkO n es q):=by
 simp only[aBa.f]
 refine Ep.bind0 (aGs n es q hn) ?_
 unfold pkO
 by_cases c:gOk n es=true
 ·by_cases hq:0≤q∧q<n
  ·have hg:=gOk_iff.1 c
   obtain⟨m,rfl⟩:=Int.eq_ofNat_of_zero_le (show 0≤n by omega)
   have g:Gr m es q:=Gr.of hg hq
   simp only[Int.toNat_natCast]
   refine Ep.pos (by rw[c,decide_eq_true hq];rfl) (Ep.bind (aXd hg) ?_)
   rintro _ rfl
   by_cases h4:aMr es (vsL m 0)≤400
   ·rw[if_pos ⟨c,hq,h4⟩]
    refine Ep.pos h4 (Ep.bind (aUg g) ?_)
    rintro _ rfl
    have hl:=aNh g
    have h6:=g.n6
    exact Ep.pos ⟨hq.1,fun x hx=>by rw[(aJy hx).1];exact⟨hq.2,by omega⟩,by omega⟩ (Ep.now rfl)
   ·rw[if_neg fun h=>h4 h.2.2]
    exact Ep.neg h4 (Ep.now rfl)
  ·rw[if_neg fun h=>hq h.2.1]
   exact Ep.neg (by rw[decide_eq_false hq];simp) (Ep.now rfl)
 ·rw[if_neg fun h=>c h.1]
  exact Ep.neg (by rw[Bool.eq_false_iff.2 c];simp) (Ep.now rfl)
end Go.Proofs.Ytnbljcgdgblgoaa.Cf
end
section
namespace Go.Proofs.Ytnbljcgdgblgoaa.Cf
open Go.Proofs.YtnbljcgdgblgoaaW.PrintWords
theorem aS0 {n:Nat} {es:List E} (hj:aEo n es) {q:Int} (hq:0≤q∧q<n) {d:Int→Int} (hd:∀ v:Int,0≤v→v<n→d v=0) (hes:∀ e∈es,EOk n e):Red n es q d:=by
 refine⟨fun v h0 h1 _=>by rw[hd v h0 h1];exact Int.le_refl _,fun S hS hx=>?_⟩
 obtain⟨b,b0,b1,hb⟩:=hx
 have hc:aFe es q b:=((hj q hq.1 hq.2).symm).trans (hj b b0 b1)
 obtain⟨u,w,hadj,hu,hw⟩:=aJg (S:=fun x=>S x=true) hc (by rw[hS];simp) hb
 have hur:=EsOk.adj hes hadj.symm
 refine⟨u,hur.1,hur.2,hu,?_⟩
 rw[hd u hur.1 hur.2]
 have hw':S w=false:=by simpa using hw
 have hnn:∀ e∈es,0≤aJc (ind S) u e:=by
  intro e _
  unfold aJc ind
  by_cases a:e.f0=u
  ·by_cases b:e.f1=u
   ·simp[a,b]
   ·rw[if_pos a,if_neg b,a,hu]
    cases S e.f1<;>simp
  ·by_cases b:e.f1=u
   ·rw[if_neg a,if_pos b,b,hu]
    cases S e.f0<;>simp
   ·simp[a,b]
 obtain⟨e,he,hx⟩:=hadj
 have h1:=aIb hnn he
 have h2:1≤aJc (ind S) u e:=by
  have hk:=hes e he
  unfold EOk at hk
  unfold aJc ind
  rcases hx with ⟨x0,x1⟩|⟨x0,x1⟩
  ·rw[if_pos x0,if_neg (show ¬ e.f1=u by omega),x0,x1,hu,hw'];simp
  ·rw[if_neg (show ¬ e.f0=u by omega),if_pos x1,x0,x1,hu,hw'];simp
 unfold lap
 omega
def Mul (n:Nat) (es:List E) (a:List Int) (k:Int) (x:List Int):Prop :=
 x.length=n∧Red n es 0 (rd x)∧∃ s:Int→Int,∀ v:Int,0≤v→v<n→rd x v=k*rd a v-lap es s v
theorem Mul.unique {n:Nat} (h1:1≤n) {es:List E} (hes:∀ e∈es,EOk n e) {a:List Int} {k:Int} {x y:List Int} (hx:Mul n es a k x) (hy:Mul n es a k y):x=y:=by
 obtain⟨xl,xr,s,hs⟩:=hx
 obtain⟨yl,yr,t,ht⟩:=hy
 have:=aOh hes (q:=0) ⟨by omega,by omega⟩ xr yr (s:=fun v=>t v-s v) (fun v v0 v1=>by
  rw[aMb,hs v v0 v1,ht v v0 v1];omega)
 exact(Rep.self xl).ext ((Rep.self yl).congr fun w h0 h1=>this.2 w h0 h1)
theorem Mul.same {n:Nat} {es:List E} {a:List Int} {j k:Int} {x:List Int} (hj:Mul n es a j x) (hk:Mul n es a k x) (hz:Red n es 0 (rd (List.replicate n 0))):Mul n es a (k-j) (List.replicate n 0):=by
 obtain⟨xl,xr,s,hs⟩:=hj
 obtain⟨_,_,t,ht⟩:=hk
 refine⟨by simp,hz,fun v=>t v-s v,fun v v0 v1=>?_⟩
 rw[aFx,aMb,Int.sub_mul]
 have:=hs v v0 v1
 have:=ht v v0 v1
 omega
theorem Mul.zero {n:Nat} {es:List E} {a:List Int} (hz:Red n es 0 (rd (List.replicate n 0))):Mul n es a 0 (List.replicate n 0) :=
 ⟨by simp,hz,fun _=>0,fun v _ _=>by rw[aFx,aIi (c:=0) (fun _ _=>⟨rfl,rfl⟩)];omega⟩
theorem Mul.add {n:Nat} {es:List E} {a c:List Int} {j k:Int} {x y:List Int} (hx:Mul n es a j x) (hy:Mul n es a k y) (hc:∀ v:Int,0≤v→v<n→rd c v=rd x v+rd y v) {r:List Int×List Int} (h:aR3 n es 0 c r):Mul n es a (j+k) r.1:=by
 obtain⟨_,_,s,hs⟩:=hx
 obtain⟨_,_,t,ht⟩:=hy
 refine⟨h.1,h.2.2.1,fun v=>s v+t v+rd r.2 v,fun v v0 v1=>?_⟩
 rw[h.2.2.2.2 v v0 v1,hc v v0 v1,hs v v0 v1,ht v v0 v1,aK2,aK2,Int.add_mul]
 omega
theorem Mul.bd {n:Nat} (hn:1≤n∧n≤6) {es:List E} (hes:∀ e∈es,EOk n e) (hel:es.length≤12) {a:List Int} (ha:a.length=n) (h0:a.sum=0) {k:Int} {x:List Int} (h:Mul n es a k x):x.sum=0∧∀ v:Int,0≤v→v<n→-72≤rd x v∧rd x v≤11:=by
 obtain⟨xl,xr,s,hs⟩:=h
 have hsum:x.sum=0:=by
  rw[aN9 n x xl,aDg (g:=fun i:Nat=>k*rd a i+lap es (fun v=>- s v) i) (fun i hi=>by
   rw[aMc]
   have:=hs i (by omega) (by omega)
   omega),aG7,aUd hes]
  rw[aN9 n a ha]at h0
  have:aEp n (fun i=>k*rd a (i:Int))=k*aEp n (fun i=>rd a (i:Int)):=by
   clear hs xl xr ha h0 hes
   induction n with
   | zero=>simp[aEp]
   | succ m ih =>
    simp only[aEp]
    by_cases hm:1≤m
    ·rw[ih ⟨hm,by omega⟩,Int.mul_add]
    ·obtain rfl:m=0:=by omega
     simp[aEp]
  rw[this,h0]
  omega
 refine⟨hsum,fun v v0 v1=>?_⟩
 by_cases hv:v=0
 ·subst hv
  have:=xr.at_q hn.2 hes hel (by omega)
  rw[← aN9 n x xl,hsum]at this
  omega
 ·have:=xr.lt hes v0 v1 hv
  have:=aN1 es v
  omega
def code:List Int→Int
 | []=>0
 | a::r=>(a+72)+100*code r
theorem aQr:∀ (l:List Int),(∀ x∈l,-72≤x∧x≤11)→0≤code l∧code l<100^l.length
 | [],_=>by simp[code]
 | a::r,h=>by
  have h1:=aQr r (fun x hx=>h x (List.mem_cons_of_mem _ hx))
  have h2:=h a List.mem_cons_self
  unfold code
  rw[List.length_cons,Int.pow_succ]
  omega
theorem aNx:∀ (l m:List Int),l.length=m.length→(∀ x∈l,-72≤x∧x≤11)→(∀ x∈m,-72≤x∧x≤11)→code l=code m→l=m
 | [],[],_,_,_,_=>rfl
 | [],_::_,h,_,_,_=>by simp at h
 | _::_,[],h,_,_,_=>by simp at h
 | a::r,b::s,hl,h,k,he=>by
  have h2:=h a List.mem_cons_self
  have k2:=k b List.mem_cons_self
  unfold code at he
  have h3:code r=code s:=by omega
  rw[aNx r s (by simpa using hl) (fun x hx=>h x (List.mem_cons_of_mem _ hx)) (fun x hx=>k x (List.mem_cons_of_mem _ hx)) h3]
  rw[show a=b by omega]
theorem few {n:Nat} (hn:n≤6) {L:List (List Int)} (hL:L.Nodup) (h:∀ x∈L,x.length=n∧∀ y∈x,-72≤y∧y≤11):L.length≤1000000000000:=by
 have h1:=aEc 1000000000000 (L.map code) (by
  unfold List.Nodup
  rw[List.pairwise_map]
  refine hL.imp_of_mem ?_
  intro x y hx hy hne he
  exact hne (aNx x y (by rw[(h x hx).1,(h y hy).1]) (h x hx).2 (h y hy).2 he)) (by
  intro v hv
  obtain⟨x,hx,rfl⟩:=List.mem_map.1 hv
  have h1:=aQr x (h x hx).2
  have h2:(100:Int)^x.length≤100^6:=by
   rw[(h x hx).1]
   have hc:n=0∨n=1∨n=2∨n=3∨n=4∨n=5∨n=6:=by omega
   rcases hc with rfl|rfl|rfl|rfl|rfl|rfl|rfl<;>decide
  have h3:(100:Int)^6=1000000000000:=by decide
  omega)
 simpa using h1
def Seen (n:Nat) (es:List E) (a:List Int) (L:List (List Int)):Prop:=∀ i:Nat,(h:i<L.length)→Mul n es a ((i:Int)+1) L[i]∧L[i]≠List.replicate n 0
theorem Seen.nodup {n:Nat} (h1:1≤n) {es:List E} (hes:∀ e∈es,EOk n e) {a:List Int} {L:List (List Int)} (hz:Red n es 0 (rd (List.replicate n 0))) (h:Seen n es a L):L.Nodup:=by
 unfold List.Nodup
 rw[List.pairwise_iff_getElem]
 intro i j hi hj hij he
 have hi':=h i hi
 have hj':=h j hj
 have hs:=Mul.same (he▸hi'.1) hj'.1 hz
 have hk:=h (j-i-1) (by omega)
 have e:(((j-i-1:Nat):Int)+1)=(j:Int)+1-((i:Int)+1):=by omega
 rw[e]at hk
 exact hk.2 (hk.1.unique h1 hes hs)
theorem Seen.len {n:Nat} (hn:1≤n∧n≤6) {es:List E} (hes:∀ e∈es,EOk n e) (hel:es.length≤12) {a:List Int} (ha:a.length=n) (h0:a.sum=0) {L:List (List Int)} (hz:Red n es 0 (rd (List.replicate n 0))) (h:Seen n es a L):L.length≤1000000000000:=by
 refine few hn.2 (h.nodup hn.1 hes hz) ?_
 intro x hx
 obtain⟨i,hi,rfl⟩:=List.getElem_of_mem hx
 have hm:=(h i hi).1
 refine⟨hm.1,fun y hy=>?_⟩
 obtain⟨j,hj,rfl⟩:=List.getElem_of_mem hy
 have:=(hm.bd hn hes hel ha h0).2 j (by omega) (by have:=hm.1;omega)
 rw[aEk hj]at this
 exact this
end Go.Proofs.Ytnbljcgdgblgoaa.Cf
end
section
namespace Go.Proofs.Ytnbljcgdgblgoaa.Cf
open Go.RowKit Go.Proofs.YtnbljcgdgblgoaaW.PrintWords Go.Proofs.Ytnbljcgdgblgoaa.P
theorem aZo {α:Type} {f:Nat→Option α} {a b:α} (h1:Ep f (·=a)) (h2:Ep f (·=b)):a=b:=by
 obtain⟨_,rfl,K,hK⟩:=h1
 obtain⟨_,rfl,J,hJ⟩:=h2
 have e1:=hK (max K J) (by omega)
 have e2:=hJ (max K J) (by omega)
 rw[e1]at e2
 exact Option.some.inj e2
def s0 (n:Nat) (es:List E) (x:Nat):WS:=⟨2^x,List.replicate n 0,List.replicate es.length false,[],(List.replicate n 0).set x (-1)⟩
theorem aW3 {n v:Nat} (hv:v<n):(List.replicate n (0:Int)).getD v 0=0:=by
 rw[List.getD_eq_getElem?_getD,List.getElem?_replicate,if_pos hv]
 rfl
theorem aZ1 {n i:Nat} (hi:i<n):(List.replicate n false).getD i true=false:=by
 rw[List.getD_eq_getElem?_getD,List.getElem?_replicate,if_pos hi]
 rfl
section
variable {n:Nat} {es:List E} {x:Nat}
theorem aGf {v:Nat}:(s0 n es x).b.testBit v=decide (x=v):=Nat.testBit_two_pow
theorem aId:WOk n es (s0 n es x):=⟨List.length_replicate,List.length_replicate,by show ((List.replicate n (0:Int)).set x (-1)).length=n;rw[List.length_set,List.length_replicate]⟩
theorem aZm:aVi n es (s0 n es x):=by
 refine⟨aId,fun v hv _=>?_,fun i hi h=>?_⟩
 ·have h0:cT es (s0 n es x).tk v=0:=by
   unfold cT
   rw[List.countP_eq_zero]
   intro i hi
   have h1:(s0 n es x).tk.getD i true=false:=aZ1 (List.mem_range.1 hi)
   rw[h1]
   simp
  rw[h0]
  exact aW3 hv
 ·have h1:(s0 n es x).tk.getD i true=false:=aZ1 hi
  rw[h1]at h
  cases h
theorem aZl (hx:x<n):(s0 n es x).F.getD x 0=-1:=aDd _ (by rw[List.length_replicate];exact hx)
theorem aZv (hx:x<n) {p:List Int} (h1:p.getD x 0=-1) (h2:∀ v,v<n→v≠x→0≤p.getD v 0):aOv n p (s0 n es x):=by
 refine⟨fun v hv hb=>?_,fun v hv hb=>?_⟩
 ·rw[aGf]at hb
  have h3:(s0 n es x).lost.getD v 0=0:=aW3 hv
  rw[h3]
  exact h2 v hv (fun e=>(of_decide_eq_false hb) e.symm)
 ·rw[aGf]at hb
  obtain rfl:=of_decide_eq_true hb
  rw[aZl hx,h1]
theorem aZk (hx:x<n):aSr n es (x:Int) (s0 n es x):=by
 refine⟨fun y hy=>absurd hy List.not_mem_nil,fun y hy=>absurd hy List.not_mem_nil,List.nodup_nil,?_,fun v _ hb=>?_⟩
 ·have h1:=aGa (P:=fun _=>false) (Q:=fun v=>(s0 n es x).b.testBit v) (i:=x) (List.range n) List.nodup_range (List.mem_range.2 hx) (fun j _ hj=>by show (s0 n es x).b.testBit j=false;rw[aGf];exact decide_eq_false fun e=>hj e.symm) rfl (by show (s0 n es x).b.testBit x=true;rw[aGf];exact decide_eq_true rfl)
  rw[h1,List.countP_eq_zero.2 (by simp)]
  rfl
 ·rw[aGf]at hb
  obtain rfl:=of_decide_eq_true hb
  exact aFe.refl
theorem aRw:(s0 n es x).tk.count false=es.length:=by
 show (List.replicate es.length false).count false=es.length
 rw[List.count_replicate_self]
def tD (tree:List Int) (i _:Nat) (_:Int):Bool:=decide ((i:Int)∈tree)
def aXv (es:List E) (tree:List Int) (s:WS):Prop:=∀ i,i<es.length→s.tk.getD i true=true→(i:Int)∈tree→s.b.testBit (es.getD i ⟨0,0⟩).f0.toNat=true∧s.b.testBit (es.getD i ⟨0,0⟩).f1.toNat=true
theorem aXv.step (hes:∀ e∈es,EOk n e) {tree:List Int} {s:WS} (hok:WOk n es s) (h:aXv es tree s) {i:Nat} (hn:nextE es s.tk s.b es.length 0=some i):aXv es tree (aFb es (tD tree) s i):=by
 obtain⟨_,_,_,hc⟩:=aEu hn
 obtain⟨hi,_,_,_⟩:=aEz hes hn
 obtain⟨_,_,o3,o4⟩:=aNm hes hi hc
 by_cases c:tD tree i (otherE es s.b i) (s.lost.getD (otherE es s.b i) 0)=true
 ·rw[aEl (D:=tD tree) s i c]
  intro j hj htk hm
  have htk2:(s.tk.set i true).getD j true=true:=htk
  rw[aGe (by rw[hok.tl];exact hi)]at htk2
  by_cases e:i=j
  ·subst e;exact⟨o3,o4⟩
  ·rw[if_neg e]at htk2
   have:=h j hj htk2 hm
   exact⟨aM3 this.1,aM3 this.2⟩
 ·rw[aF0 (D:=tD tree) s i c]
  intro j hj htk hm
  have htk2:(s.tk.set i true).getD j true=true:=htk
  rw[aGe (by rw[hok.tl];exact hi)]at htk2
  by_cases e:i=j
  ·subst e;exact absurd (decide_eq_true hm) c
  ·rw[if_neg e]at htk2
   exact h j hj htk2 hm
theorem aLl (hes:∀ e∈es,EOk n e) {tree:List Int} (hr:InR es tree tree.length) (hj:aEo n (aCf es tree)) (hx:x<n) {s:WS} (hb:s.b.testBit x=true) (h:aXv es tree s) (hn:nextE es s.tk s.b es.length 0=none):∀ v,v<n→s.b.testBit v=true:=by
 intro v hv
 have hc:aFe (aCf es tree) (x:Int) (v:Int):=(hj x (by omega) (by omega)).symm.trans (hj v (by omega) (by omega))
 have key:(0≤(v:Int)∧(v:Int)<n)∧s.b.testBit (v:Int).toNat=true:=by
  refine hc.closed (S:=fun x=>(0≤x∧x<n)∧s.b.testBit x.toNat=true) ?_ ⟨⟨by omega,by omega⟩,by simpa using hb⟩
  rintro a c ⟨ha,hb⟩ ⟨e,he,hac⟩
  unfold aCf at he
  obtain⟨k,hk,rfl⟩:=List.mem_map.1 he
  obtain⟨j,hj2,rfl⟩:=List.getElem_of_mem hk
  have hrg:=hr j hj2 hj2
  have hlt:tree[j].toNat<es.length:=by omega
  have heo:=hes _ (List.getElem_mem hlt)
  rw[aPx hlt]at hac
  unfold EOk at heo
  have both:s.b.testBit es[tree[j].toNat].f0.toNat=true∧s.b.testBit es[tree[j].toNat].f1.toNat=true:=by
   rcases aHf hn tree[j].toNat (by omega) (by omega) with t|t
   ·have:=h _ hlt t (by rw[Int.toNat_of_nonneg hrg.1];exact hk)
    rwa[aPx hlt]at this
   ·rw[aPx hlt]at t
    have t2:s.b.testBit es[tree[j].toNat].f0.toNat=s.b.testBit es[tree[j].toNat].f1.toNat:=by
     unfold crossE at t
     simpa[bne]using t
    rcases hac with ⟨h1,h2⟩|⟨h1,h2⟩
    ·rw[h1,hb]at t2
     rw[h1]
     exact⟨hb,t2.symm⟩
    ·rw[h2,hb]at t2
     rw[h2]
     exact⟨t2,hb⟩
  rcases hac with ⟨h1,h2⟩|⟨h1,h2⟩
  ·rw[← h2]
   exact⟨⟨by omega,by omega⟩,both.2⟩
  ·rw[← h1]
   exact⟨⟨by omega,by omega⟩,both.1⟩
 simpa using key.2
theorem aN6 (hes:∀ e∈es,EOk n e) {tree:List Int} (hr:InR es tree tree.length) (hj:aEo n (aCf es tree)) (hx:x<n):∀ (d:Nat) {s:WS},s.tk.count false=d→WOk n es s→s.b.testBit x=true→aXv es tree s→∀ v,v<n→(wlk es (tD tree) d s).b.testBit v=true
 | 0,_,hd,hok,hb,h=>aLl hes hr hj hx hb h (aEt hok hd)
 | d+1,s,hd,hok,hb,h=>by
  cases hn:nextE es s.tk s.b es.length 0 with
  | none=>rw[aE1 hn];exact aLl hes hr hj hx hb h hn
  | some i =>
   rw[aE0 hn]
   obtain⟨hi,ht,_,_⟩:=aEz hes hn
   exact aN6 hes hr hj hx d (aH2 hok hi ht hd) (hok.step i) (aPm hb) (h.step hes hok hn)
theorem aZ2 (hn:n≤6) (hes:∀ e∈es,EOk n e) {tree:List Int} (htl:tree.length≤1048576):∀ (d b:Nat) (lost:List Int) (tk:List Bool) (T f:List Int),tk.count false=d→WOk n es ⟨b,lost,tk,T,f⟩→(∀ v,v<n→0≤lost.getD v 0∧lost.getD v 0+d≤12) →
  Ep (fun k=>aAe.wk es tree k b lost tk f) (·=(wlk es (tD tree) d ⟨b,lost,tk,T,f⟩).F):=by
 have stop:∀ (d b:Nat) (lost:List Int) (tk:List Bool) (T f:List Int),nextE es tk b es.length 0=none→Ep (fun k=>aAe.wk es tree k b lost tk f) (·=(wlk es (tD tree) d ⟨b,lost,tk,T,f⟩).F):=by
  intro d b lost tk T f hx
  have e:wlk es (tD tree) d ⟨b,lost,tk,T,f⟩=⟨b,lost,tk,T,f⟩:=by
   cases d with
   | zero=>rfl
   | succ d=>exact aE1 hx
  rw[e]
  refine Ep.up ?_
  simp only[aAe.wk]
  rw[hx]
  exact Ep.now rfl
 intro d
 induction d with
 | zero =>
  intro b lost tk T f hd hok hbd
  exact stop 0 b lost tk T f (aEt (s:=⟨b,lost,tk,T,f⟩) hok hd)
 | succ d ih =>
  intro b lost tk T f hd hok hbd
  cases hx:nextE es tk b es.length 0 with
  | none=>exact stop (d+1) b lost tk T f hx
  | some i =>
   obtain⟨hi,ht,h4,h5⟩:=aEz (s:=⟨b,lost,tk,T,f⟩) hes hx
   have hcnt:=aH2 (D:=tD tree) (s:=⟨b,lost,tk,T,f⟩) hok hi ht hd
   have hok2:=hok.step (D:=tD tree) i
   have hrd:rd lost (otherE es b i:Int)=lost.getD (otherE es b i) 0:=aEh lost _
   have hbo:0≤lost.getD (otherE es b i) 0∧lost.getD (otherE es b i) 0+((d+1:Nat):Int)≤12:=hbd _ h4
   have hll:lost.length=n:=hok.ll
   rw[aE0 (s:=⟨b,lost,tk,T,f⟩) hx]
   by_cases c:(i:Int)∈tree
   ·rw[aEl (D:=tD tree) ⟨b,lost,tk,T,f⟩ i (decide_eq_true c)]at hcnt hok2 ⊢
    refine Ep.up ?_
    simp only[aAe.wk]
    rw[hx]
    refine Ep.bind (aGu tree (i:Int) htl) ?_
    rintro _ rfl
    refine Ep.pos (by simpa using c) ?_
    rw[hrd]
    exact ih _ _ _ _ _ hcnt hok2 fun v hv=>by have:=hbd v hv;show 0≤lost.getD v 0∧lost.getD v 0+(d:Int)≤12;omega
   ·rw[aF0 (D:=tD tree) ⟨b,lost,tk,T,f⟩ i (fun h=>c (of_decide_eq_true h))]at hcnt hok2 ⊢
    have hw:wrap64 (lost.getD (otherE es b i) 0+1)=lost.getD (otherE es b i) 0+1:=aC5 (by omega) (by omega)
    refine Ep.up ?_
    simp only[aAe.wk]
    rw[hx]
    refine Ep.bind (aGu tree (i:Int) htl) ?_
    rintro _ rfl
    refine Ep.neg (by simpa using c) ?_
    rw[hrd,hw]
    refine ih _ _ _ _ _ hcnt hok2 fun v hv=>?_
    have:=hbd v hv
    show 0≤(lost.set (otherE es b i) (lost.getD (otherE es b i) 0+1)).getD v 0∧(lost.set (otherE es b i) (lost.getD (otherE es b i) 0+1)).getD v 0+(d:Int)≤12
    by_cases e:otherE es b i=v
    ·rw[e,aDd _ (by omega)]
     omega
    ·rw[getD_set_ne _ e]
     omega
theorem aZ0 (hn:n≤6) (hes:∀ e∈es,EOk n e) {p:List Int}:∀ (d b:Nat) (lost:List Int) (tk:List Bool) (T f:List Int),tk.count false=d→WOk n es ⟨b,lost,tk,T,f⟩→(∀ v,v<n→0≤lost.getD v 0∧lost.getD v 0+d≤12)→T.length+d≤12 →
  Ep (fun k=>aAa.wk es p k b lost tk T) (·=(wlk es (pD p) d ⟨b,lost,tk,T,f⟩).T)∧(wlk es (pD p) d ⟨b,lost,tk,T,f⟩).T.length≤12:=by
 have stop:∀ (d b:Nat) (lost:List Int) (tk:List Bool) (T f:List Int),nextE es tk b es.length 0=none→T.length+d≤12→Ep (fun k=>aAa.wk es p k b lost tk T) (·=(wlk es (pD p) d ⟨b,lost,tk,T,f⟩).T)∧(wlk es (pD p) d ⟨b,lost,tk,T,f⟩).T.length≤12:=by
  intro d b lost tk T f hx hT
  have e:wlk es (pD p) d ⟨b,lost,tk,T,f⟩=⟨b,lost,tk,T,f⟩:=by
   cases d with
   | zero=>rfl
   | succ d=>exact aE1 hx
  rw[e]
  refine⟨Ep.up ?_,by show T.length≤12;omega⟩
  simp only[aAa.wk]
  rw[hx]
  exact Ep.now rfl
 intro d
 induction d with
 | zero =>
  intro b lost tk T f hd hok hbd hT
  exact stop 0 b lost tk T f (aEt (s:=⟨b,lost,tk,T,f⟩) hok hd) hT
 | succ d ih =>
  intro b lost tk T f hd hok hbd hT
  cases hx:nextE es tk b es.length 0 with
  | none=>exact stop (d+1) b lost tk T f hx hT
  | some i =>
   obtain⟨hi,ht,h4,h5⟩:=aEz (s:=⟨b,lost,tk,T,f⟩) hes hx
   have hcnt:=aH2 (D:=pD p) (s:=⟨b,lost,tk,T,f⟩) hok hi ht hd
   have hok2:=hok.step (D:=pD p) i
   have hbo:0≤lost.getD (otherE es b i) 0∧lost.getD (otherE es b i) 0+((d+1:Nat):Int)≤12:=hbd _ h4
   have hll:lost.length=n:=hok.ll
   rw[aE0 (s:=⟨b,lost,tk,T,f⟩) hx]
   by_cases c:p.getD (otherE es b i) 0≤lost.getD (otherE es b i) 0
   ·rw[aEl (D:=pD p) ⟨b,lost,tk,T,f⟩ i (decide_eq_true c)]at hcnt hok2 ⊢
    obtain⟨h1,h2⟩:=ih _ _ _ (T++[(i:Int)]) _ hcnt hok2 (fun v hv=>by have:=hbd v hv;show 0≤lost.getD v 0∧lost.getD v 0+(d:Int)≤12;omega) (by rw[List.length_append,List.length_singleton];omega)
    refine⟨Ep.up ?_,h2⟩
    simp only[aAa.wk]
    rw[hx]
    refine Ep.pos (by omega) ?_
    rw[aEh,aEh]
    exact Ep.pos (decide_eq_true c) h1
   ·rw[aF0 (D:=pD p) ⟨b,lost,tk,T,f⟩ i (fun h=>c (of_decide_eq_true h))]at hcnt hok2 ⊢
    have hw:wrap64 (lost.getD (otherE es b i) 0+1)=lost.getD (otherE es b i) 0+1:=aC5 (by omega) (by omega)
    obtain⟨h1,h2⟩:=ih _ _ _ T _ hcnt hok2 (fun v hv=>by
     have:=hbd v hv
     show 0≤(lost.set (otherE es b i) (lost.getD (otherE es b i) 0+1)).getD v 0∧(lost.set (otherE es b i) (lost.getD (otherE es b i) 0+1)).getD v 0+(d:Int)≤12
     by_cases e:otherE es b i=v
     ·rw[e,aDd _ (by omega)]
      omega
     ·rw[getD_set_ne _ e]
      omega) (by omega)
    refine⟨Ep.up ?_,h2⟩
    simp only[aAa.wk]
    rw[hx]
    refine Ep.pos (by omega) ?_
    rw[aEh,aEh,hw]
    exact Ep.neg (by rw[decide_eq_false c];simp) h1
end
theorem aQd {m:Nat} {es:List E} {tree:List Int} (hT:aFl (m:Int) es tree) {x:Nat} (hx:x<m):Ep (fun k=>aAe.f k (m:Int) es tree (x:Int)) (·=((wlk es (tD tree) es.length (s0 m es x)).F,true)):=by
 have ht:=aFr.2 hT
 obtain⟨hg,hlen,hr,hu,hj⟩:=hT
 have hG:=hg.1
 unfold EsOk at hG
 have hw:wrap64 ((m:Int)-1)=(m:Int)-1:=aC5 (by omega) (by omega)
 have hq:0≤(x:Int)∧(x:Int)≤(m:Int)-1:=by omega
 have hone:=aS6 (n:=m) es (v:=(x:Int)) (by omega) (by omega) (by omega) (-1)
 rw[Int.toNat_natCast]at hone
 have hcond:(0≤(m:Int)∧(m:Int)≤6)∧es.length≤12∧(0≤(x:Int)∧(x:Int)<m)∧((List.replicate m (0:Int)).set x (-1)).length=((m:Int)).toNat∧∀ e∈es,(0≤e.f0∧e.f0<(m:Int))∧0≤e.f1∧e.f1<(m:Int):=by
  refine⟨⟨by omega,by omega⟩,hG.2.2.1,⟨by omega,by omega⟩,by rw[List.length_set,List.length_replicate,Int.toNat_natCast],fun e he=>?_⟩
  have:=hG.2.2.2 e he
  unfold EOk at this
  omega
 have h:=aZ2 (n:=m) (es:=es) (tree:=tree) (by omega) hG.2.2.2 (by omega) es.length (2^x) (List.replicate m 0) (List.replicate es.length false) [] ((List.replicate m 0).set x (-1)) (aRw (n:=m) (x:=x)) (aId (n:=m) (x:=x)) (fun v hv=>by rw[aW3 hv];omega)
 simp only[aAe.f]
 refine Ep.bind (aNq (m:Int) es tree (by omega)) ?_
 rintro _ rfl
 refine Ep.pos ht (Ep.bind0 (aGz _ _ _) (Ep.pos (by rw[hw];simpa using hq) (Ep.bind0 hone (Ep.pos hcond ?_))))
 rw[Int.toNat_natCast,Int.toNat_natCast]
 refine Ep.bind h ?_
 rintro _ rfl
 exact Ep.now rfl
theorem aQc {m:Nat} {es:List E} {p:List Int} {x:Nat} (hp:aKy (m:Int) es p (x:Int)=true) (hl:p.length≤1048576):Ep (fun k=>aAa.f k (m:Int) es p (x:Int)) (·=(aT2 (wlk es (pD p) es.length (s0 m es x)).T,true)):=by
 have hb:=aPz hp
 obtain⟨m',e,g,hg,hdl,_⟩:=aMt hb
 obtain rfl:m=m':=by omega
 have hq:=g.hq
 have h6:=g.n6
 have hel:=g.hel
 obtain⟨h1,h2⟩:=aZ0 (n:=m) (es:=es) (p:=p) h6 g.hes es.length (2^x) (List.replicate m 0) (List.replicate es.length false) [] ((List.replicate m 0).set x (-1)) (aRw (n:=m) (x:=x)) (aId (n:=m) (x:=x)) (fun v hv=>by rw[aW3 hv];omega) (by simp only[List.length_nil];omega)
 simp only[aAa.f]
 refine Ep.bind (aNr (m:Int) es p (x:Int) (by simp[Wf,Lit.wf,IntKind.min,IntKind.max,IntKind.signed,IntKind.bits];omega) hl) ?_
 rintro _ rfl
 refine Ep.pos hp (Ep.pos ⟨⟨by omega,by omega⟩,g.hel,⟨by omega,by omega⟩,by rw[hdl,Int.toNat_natCast],fun e he=>by have:=g.hes e he;unfold EOk at this;omega⟩ ?_)
 rw[Int.toNat_natCast,Int.toNat_natCast]
 refine Ep.bind h1 ?_
 rintro _ rfl
 refine Ep.pos h2 (Ep.bind (aSd _ (by omega)) ?_)
 intro r hpp
 exact Ep.now (by rw[aTx hpp.1 hpp.2];rfl)
theorem aU3 {n:Nat} {es:List E} {q:Int} {d d':Int→Int} (h:Red n es q d) (he:∀ v:Int,0≤v→v<n→v≠q→d v=d' v):Red n es q d':=by
 refine⟨fun v h0 h1 h2=>by rw[← he v h0 h1 h2];exact h.1 v h0 h1 h2,fun S hS hx=>?_⟩
 obtain⟨v,h0,h1,h2,h3⟩:=h.2 S hS hx
 exact⟨v,h0,h1,h2,by rw[← he v h0 h1 (fun e=>by rw[e,hS]at h2;cases h2)];exact h3⟩
theorem aNz {n:Nat} {es:List E} {q:Int} (g:Gr n es q) {d:Int→Int} (h:Red n es q d):(aHw n es d q).length=n:=by
 have hb:=aKa (es:=es) (d:=d) g.hq
 have hlen:=hb.1.len g.hq
 apply Classical.byContradiction
 intro hc
 obtain⟨v,v0,v1,v2,v3⟩:=Red.burns g.hes g.hq hb.1 h (by omega)
 have:=hb.2 v v0 v1 v2
 omega
theorem aNk {m:Nat} {es:List E} (hg:GOk (m:Int) es) {x:Nat} (hx:x<m) {p:List Int} (hl:p.length=m) (hm:p.getD x 0=-1) (hr:Red m es (x:Int) (rd p)):aKy (m:Int) es p (x:Int)=true:=by
 have g:Gr m es (x:Int):=Gr.of hg (by omega)
 have hbd:∀ y∈p,-60≤y∧y≤60:=by
  intro y hy
  obtain⟨j,hj,rfl⟩:=List.getElem_of_mem hy
  have e:rd p (j:Int)=p[j]:=by
   rw[aEh,List.getD_eq_getElem?_getD,List.getElem?_eq_getElem hj]
   rfl
  by_cases c:j=x
  ·subst c
   rw[aEh,hm]at e
   omega
  ·have h1:=hr.lt g.hes (v:=(j:Int)) (by omega) (by omega) (by omega)
   have h2:=aPc g (j:Int)
   rw[e]at h1
   omega
 have hd:dOk (m:Int) es p=true:=aK7.2 ⟨hg,by omega,hbd⟩
 have hb:bOk (m:Int) es p (x:Int)=true:=by
  unfold bOk
  rw[hd,decide_eq_true (by omega)]
  rfl
 have hdebt:aFn (x:Int) p p.length 0<0:=by
  apply Classical.byContradiction
  intro hc
  obtain⟨h0,h1,h2,h3⟩:=aSl hl hc
  have:=hr.1 _ h0 h1 h2
  omega
 unfold aKy aW5
 rw[if_pos hb,if_pos hdebt,aV3 hb]
 have h1:=aNz g hr
 rw[if_pos (by simp only[beq_iff_eq];omega),aEh,hm]
 rfl
theorem aKf {m:Nat} {es:List E} {tree:List Int} (hT:aFl (m:Int) es tree) {x:Nat} (hx:x<m):(∀ v,v<m→(wlk es (tD tree) es.length (s0 m es x)).b.testBit v=true)∧aKy (m:Int) es (wlk es (tD tree) es.length (s0 m es x)).F (x:Int)=true:=by
 obtain⟨hg,hlen,hr,hu,hj⟩:=hT
 have hG:=hg.1
 unfold EsOk at hG
 have hes:=hG.2.2.2
 have hall:=aN6 (n:=m) (es:=es) (x:=x) hes hr hj hx es.length aRw aId (by rw[aGf];exact decide_eq_true rfl) (fun i hi h=>by
  have h1:(s0 m es x).tk.getD i true=false:=aZ1 hi
  rw[h1]at h
  cases h)
 have hq:=(aGy (D:=tD tree) hes es.length (s:=s0 m es x) (v:=x) (by rw[aGf];exact decide_eq_true rfl)).1
 refine⟨hall,aNk hg hx (aMz (D:=tD tree) hes es.length aId).fl (by rw[hq,aZl hx]) ⟨?_,?_⟩⟩
 ·intro v h0 h1 h2
  obtain⟨v,rfl⟩:=Int.eq_ofNat_of_zero_le h0
  have hv:v<m:=by omega
  have h3:=aN0 (D:=tD tree) hes hv es.length (s:=s0 m es x) aId (by rw[aGf];exact decide_eq_false (by omega)) (hall v hv)
  have h4:(s0 m es x).lost.getD v 0=0:=aW3 hv
  rw[h4]at h3
  show 0≤rd _ ((v:Nat):Int)
  rw[aEh]
  exact h3
 ·intro S hS ⟨v,h0,h1,h2⟩
  obtain⟨w,hw,h3,h4⟩:=aJr (D:=tD tree) hes (S:=S) es.length (s:=s0 m es x) aZm (fun y hy h0 h1=>by
   rw[aGf]
   refine decide_eq_false fun e=>?_
   have e2:y=(x:Int):=by omega
   rw[e2,hS]at hy
   cases hy) ⟨v.toNat,by omega,by rw[Int.toNat_of_nonneg h0];exact h2⟩ hall
  exact⟨(w:Int),by omega,by omega,h3,by rw[aEh];exact h4⟩
theorem aS4 {m:Nat} {es:List E} (hg:GOk (m:Int) es) {x:Nat} (hx:x<m) {p:List Int} (hl:p.length=m) (hm:p.getD x 0=-1) (hr:Red m es (x:Int) (rd p)):(∀ v,v<m→(wlk es (pD p) es.length (s0 m es x)).b.testBit v=true)∧(wlk es (pD p) es.length (s0 m es x)).F=p:=by
 have g:Gr m es (x:Int):=Gr.of hg (by omega)
 have h:=aPb (q:=(x:Int)) (by omega) g.hes hr es.length (s:=s0 m es x) aRw aZm (aZv hx hm fun v hv hne=>by
  have:=hr.1 (v:Int) (by omega) (by omega) (by omega)
  rwa[aEh]at this) (by rw[Int.toNat_natCast,aGf];exact decide_eq_true rfl)
 have hF:=(aMz (D:=pD p) g.hes es.length (s:=s0 m es x) aId).fl
 refine⟨fun v hv=>(h v hv).1,List.ext_getElem (by omega) fun i h1 h2=>?_⟩
 have h3:=(h i (by omega)).2
 rw[List.getD_eq_getElem?_getD,List.getElem?_eq_getElem h1,List.getD_eq_getElem?_getD,List.getElem?_eq_getElem h2]at h3
 exact h3
theorem aPa {es:List E} {D D2:Nat→Nat→Int→Bool} (h:∀ i o l,D i o l=D2 i o l) (d:Nat) (s:WS):wlk es D d s=wlk es D2 d s:=by
 have e:D=D2:=funext fun i=>funext fun o=>funext fun l=>h i o l
 rw[e]
theorem aPh {m:Nat} {es:List E} {tree:List Int} (hT:aFl (m:Int) es tree) {x:Nat} (hx:x<m):aT2 (wlk es (pD (wlk es (tD tree) es.length (s0 m es x)).F) es.length (s0 m es x)).T=tree:=by
 have hes:=hT.1.1.2.2.2
 obtain⟨hall,_⟩:=aKf hT hx
 have e:=aWu (D:=tD tree) hes es.length (s:=s0 m es x) aId hall
 have e2:wlk es (pD (wlk es (tD tree) es.length (s0 m es x)).F) es.length (s0 m es x)=wlk es (tD tree) es.length (s0 m es x):=e
 rw[e2]
 have hK:=aTm (D:=tD tree) hes es.length (s:=s0 m es x) aId (aZk hx)
 exact aTs hK hall hT (aZq (D:=tD tree) (P:=fun y=>y∈tree) (fun i o l h=>of_decide_eq_true h) es.length (s:=s0 m es x) (fun y hy=>absurd hy List.not_mem_nil)) (aH3 _) (aJw _)
theorem aPy {m:Nat} {es:List E} (hg:GOk (m:Int) es) {x:Nat} (hx:x<m) {p:List Int} (hl:p.length=m) (hm:p.getD x 0=-1) (hr:Red m es (x:Int) (rd p)):aFl (m:Int) es (aT2 (wlk es (pD p) es.length (s0 m es x)).T)∧(wlk es (tD (aT2 (wlk es (pD p) es.length (s0 m es x)).T)) es.length (s0 m es x)).F=p:=by
 have hes:=hg.1.2.2.2
 obtain⟨hall,hF⟩:=aS4 hg hx hl hm hr
 have hK:=aTm (D:=pD p) hes es.length (s:=s0 m es x) aId (aZk hx)
 refine⟨aTq (q:=(x:Int)) (by omega) hg hK hall (aH3 _) (aJw _),?_⟩
 have e:=aWt (D:=pD p) (es:=es) es.length (s:=s0 m es x) List.length_replicate (fun y hy=>absurd hy List.not_mem_nil)
 have e2:wlk es (tD (aT2 (wlk es (pD p) es.length (s0 m es x)).T)) es.length (s0 m es x)=wlk es (fun i _ _=>decide ((i:Int)∈(wlk es (pD p) es.length (s0 m es x)).T)) es.length (s0 m es x):=aPa (fun i _ _=>by
  show decide _=decide _
  rw[decide_eq_decide]
  exact(aH3 _).mem_iff) _ _
 rw[e2,e,hF]
theorem aS3 {m:Nat} {es:List E} (hg:GOk (m:Int) es) {x:Nat} (hx:x<m) {p:List Int} (h:p∈pkL m es (x:Int)):p.length=m∧p.getD x 0=-1∧Red m es (x:Int) (rd p):=by
 have g:Gr m es (x:Int):=Gr.of hg (by omega)
 have hrow:=aU5 h
 obtain⟨y,hy,rfl⟩:=List.mem_map.1 h
 obtain⟨h1,h2⟩:=aJy hy
 rw[Int.toNat_natCast]at hrow ⊢
 refine⟨hrow,aDd _ (by omega),?_⟩
 have hb:=of_decide_eq_true (List.mem_filter.1 hy).2
 have hred:Red m es (x:Int) (rd y):=(aKa (es:=es) (d:=rd y) g.hq).1.red g.hes g.hq hb fun v h0 h1' _=>by
  obtain⟨v,rfl⟩:=Int.eq_ofNat_of_zero_le h0
  have:=h2 v (by omega)
  show 0≤rd y ((v:Nat):Int)
  rw[aEh,List.getD_eq_getElem?_getD,List.getElem?_eq_getElem (by omega)]
  exact this.1
 refine aU3 hred fun v h0 h1' h3=>?_
 obtain⟨v,rfl⟩:=Int.eq_ofNat_of_zero_le h0
 show rd y ((v:Nat):Int)=rd (y.set x (-1)) ((v:Nat):Int)
 rw[aEh,aEh,getD_set_ne _ (by omega)]
theorem aQw {c:Nat→Nat}:∀ {n:Nat},(∀ v,v<n→0<c v)→List.replicate n (0:Int)∈boxL c n
 | 0,_=>by show []∈[[]];exact List.mem_cons_self
 | n+1,h=>by
  rw[boxL,List.mem_flatMap]
  refine⟨List.replicate n 0,aQw fun v hv=>h v (by omega),?_⟩
  have:=aSj (d:=List.replicate n (0:Int)) (h n (by omega))
  rw[List.replicate_succ']
  exact this
theorem aX3 {m:Nat} {es:List E} {q:Int} (g:Gr m es q):0<(pkL m es q).length:=by
 unfold pkL
 rw[List.length_map]
 refine List.length_pos_iff.2 (List.ne_nil_of_mem (a:=List.replicate m 0) ?_)
 unfold aW4
 rw[List.mem_filter]
 refine⟨aQw fun v hv=>aNy g hv,decide_eq_true ?_⟩
 exact aNz g (aS0 g.hj g.hq (fun v h0 h1=>by
  obtain⟨v,rfl⟩:=Int.eq_ofNat_of_zero_le h0
  show rd _ ((v:Nat):Int)=0
  rw[aEh]
  exact aW3 (by omega)) g.hes)
theorem law_FnParking (l:List Int) (wl:SL (Wf .u8) l):Ep (fun k=>laws_FnParking.f k l) (·=true):=by
 simp only[laws_FnParking.f]
 refine Ep.ite (fun _=>Ep.now rfl) (fun hc=>?_)
 have hb:l.length≤1048576:=by omega
 refine Ep.bind (aS8 l hb) ?_
 rintro⟨n',es,t⟩ ⟨n,hn,h2,h5,hg,h4,ht⟩
 dsimp only at hn hg h4 ht ⊢
 subst hn
 refine Ep.bind (aQ5 l hb 60 (by omega)) ?_
 intro y hy
 refine Ep.neg (by omega) ?_
 have hq0:=Int.tmod_nonneg (a:=y) (n:Int) hy.1
 have hq1:=Int.tmod_lt_of_pos y (show (0:Int)<n by omega)
 obtain⟨x,hx⟩:=Int.eq_ofNat_of_zero_le hq0
 rw[hx]at hq1 ⊢
 have hxn:x<n:=by omega
 have hT:=aKg.1 ht
 obtain⟨hall,hpark⟩:=aKf hT hxn
 have hFl:=(aMz (D:=tD t) hg.1.2.2.2 es.length (s:=s0 n es x) aId).fl
 have htl:=hT.2.1
 refine Ep.bind (aQd hT hxn) ?_
 rintro _ rfl
 refine Ep.pos rfl (Ep.bind (aNr (n:Int) es _ (x:Int) (by simp[Wf,Lit.wf,IntKind.min,IntKind.max,IntKind.signed,IntKind.bits];omega) (by dsimp only;omega)) ?_)
 rintro _ rfl
 rw[hpark]
 refine Ep.up ?_
 simp only[laws_FnParking.j0]
 refine Ep.neg (by simp) (Ep.bind (aQc hpark (by omega)) ?_)
 rintro _ rfl
 rw[aPh hT hxn]
 refine Ep.pos rfl (Ep.bind (aNc rfl (by dsimp only;omega)) ?_)
 rintro _ rfl
 refine Ep.up ?_
 simp only[laws_FnParking.j1]
 have g:Gr n es (x:Int):=Gr.of hg (by omega)
 refine Ep.neg (by simp) (Ep.bind (aXc (n:Int) es (x:Int) (by simp[Wf,Lit.wf,IntKind.min,IntKind.max,IntKind.signed,IntKind.bits];omega)) ?_)
 rintro _ rfl
 have hpk:pkO (n:Int) es (x:Int)=(pkL n es (x:Int),true):=by
  unfold pkO
  rw[Int.toNat_natCast,if_pos ⟨gOk_iff.2 hg,by omega,h4⟩]
 rw[hpk]
 have hne:=aX3 g
 have hln:=aU6 g
 refine Ep.pos rfl (Ep.up ?_)
 simp only[laws_FnParking.j2]
 refine Ep.neg (by rw[beq_iff_eq];omega) (Ep.bind (aQ5 l hb 62 (by omega)) ?_)
 intro z hz
 have hz0:=Int.tmod_nonneg (a:=z) ((pkL n es (x:Int)).length:Int) hz.1
 have hz1:=Int.tmod_lt_of_pos z (show (0:Int)<((pkL n es (x:Int)).length:Int) by omega)
 obtain⟨i,hi⟩:=Int.eq_ofNat_of_zero_le hz0
 rw[hi]at hz1 ⊢
 have hlt:i<(pkL n es (x:Int)).length:=by omega
 have er:aBp (pkL n es (x:Int)) (i:Int)=(pkL n es (x:Int))[i]:=by
  unfold aBp
  rw[Int.toNat_natCast,List.getD_eq_getElem?_getD,List.getElem?_eq_getElem hlt]
  rfl
 obtain⟨p1,p2,p3⟩:=aS3 hg hxn (List.getElem_mem hlt)
 obtain⟨b1,b2⟩:=aPy hg hxn p1 p2 p3
 have hp:=aNk hg hxn p1 p2 p3
 refine Ep.neg (by omega) (Ep.pos (by omega) (Ep.pos (by omega) ?_))
 rw[er]
 refine Ep.bind (aQc hp (by omega)) ?_
 rintro _ rfl
 refine Ep.bind (aQd b1 hxn) ?_
 rintro _ rfl
 have hul:=b1.2.1
 refine Ep.pos rfl (Ep.pos rfl (Ep.bind (aNq (n:Int) es _ (by dsimp only;omega)) ?_))
 rintro _ rfl
 refine Ep.pos (aFr.2 b1) ?_
 rw[b2]
 refine Ep.bind (aNc rfl (by dsimp only;omega)) ?_
 rintro _ rfl
 exact Ep.now rfl
end Go.Proofs.Ytnbljcgdgblgoaa.Cf
end
section
namespace Go.Proofs.Ytnbljcgdgblgoaa.Cf
open Go.RowKit Go.ChangeShapes Go.WideShapes Go.Deep Go.Joins Go.Proofs.YtnbljcgdgblgoaaW.PrintWords
section
variable {H:Type} {enc:TypeId×Value→H} {P:Program} {w:World} {base:Nat} {spare:Nat→Bool} {held:Bool}
theorem aWv {α:Type} {d:Kd α} {Q:α→Prop} (hd:Inhabited α) {t e:TypeId} {fuel:Nat} {cs:List Value} {x:DataW H×List MemPlace} (ht:P.underlying t=some (.slice e)) (hsz:P.cellsOf e=d.sz)
  (hel:∀ (n:Nat) (cs:List Value) (y:DataW H×List MemPlace),DataW.trod enc P w base spare held n e cs=some y→∃ a:α,d.K w a cs∧Q a)
  (h:DataW.trod enc P w base spare held fuel t cs=some x):∃ A len cap xs,cs=[.slice A len cap]∧xs.length=len∧len≤cap∧Kd.C d w A len xs∧SL Q xs:=by
 rcases open_slice ht h with ⟨rfl,_⟩|⟨a,len,cap,m,n,D,Pl,rfl,_,hl,hm,hmm,_,hx⟩
 ·exact⟨none,0,0,[],rfl,rfl,Nat.le_refl _,⟨rfl,by omega,fun hn=>by omega⟩,by simp,fun x hx=>by cases hx⟩
 ·have hlm:len≤m:=by rw[hmm];split<;>omega
  obtain⟨X,hX⟩:=choose_lt (α:=α) (n:=len) (p:=fun i z=>Q z∧∃ c,c.length=d.sz∧d.K w z c∧∀ j u,c[j]? = some u→w.cell? (a.add (i*d.sz+j))=some u) (fun i hi=>by
   obtain⟨cs',h1,h2⟩:=hx i (by omega)
   obtain⟨z,hz,hq⟩:=hel n cs' _ h2
   obtain⟨_,hlen,hc⟩:=World.cells?_some h1
   refine⟨z,hq,cs',by rw[hlen,hsz],hz,fun j u hj=>?_⟩
   have hjl:j<cs'.length:=by
    apply Classical.byContradiction
    intro hc
    rw[List.getElem?_eq_none (by omega)]at hj
    cases hj
   have:=hc j (by omega)
   rw[Deep.add_add,hsz]at this
   rw[this,hj])
  refine⟨some a,len,cap,(List.range len).map X,rfl,by simp,hl,⟨by simp,?_,fun _=>⟨a,rfl,fun j p hj=>?_⟩⟩,by simp;unfold maxLen at hm;omega,fun x hx=>?_⟩
  ·unfold maxLen at hm
   omega
  ·have hjl:j<len:=by
    apply Classical.byContradiction
    intro hc
    rw[List.getElem?_eq_none (by simp;omega)]at hj
    cases hj
   have:p=X j:=by
    rw[List.getElem?_eq_getElem (by simpa using hjl)]at hj
    simpa using hj.symm
   subst this
   exact(hX j hjl).2
  ·obtain⟨i,hi,rfl⟩:=List.mem_map.1 hx
   exact(hX i (List.mem_range.1 hi)).1
theorem el_int {k:IntKind} {e:TypeId} (he:P.underlying e=some (.int k)):∀ (n:Nat) (cs:List Value) (y:DataW H×List MemPlace),DataW.trod enc P w base spare held n e cs=some y→∃ a:Int,(Kd.int k).K w a cs∧Wf k a:=by
 intro n cs y h
 obtain⟨a,rfl,_,hw⟩:=DataW.trod_int he h
 exact⟨a,rfl,hw⟩
theorem arg_slice {α:Type} {d:Kd α} {Q:α→Prop} (hd:Inhabited α) {t e:TypeId} {a:Option Addr} {len cap:Nat} {x:DataW H} {ps:List MemPlace} (ht:P.underlying t=some (.slice e)) (hsz:P.cellsOf e=d.sz)
  (hel:∀ (n:Nat) (cs:List Value) (y:DataW H×List MemPlace),DataW.trod enc P w base spare held n e cs=some y→∃ a:α,d.K w a cs∧Q a)
  (h:DataW.Trod enc P w base spare held t (.slice a len cap) x ps):∃ xs:List α,xs.length=len∧len≤cap∧Kd.C d w a len xs∧SL Q xs:=by
 obtain⟨fuel,hf⟩:=h
 obtain⟨A,l,c,xs,hcs,hl,hc,hC,hq⟩:=aWv hd ht hsz hel hf
 simp[Value.cells]at hcs
 obtain⟨rfl,rfl,rfl⟩:=hcs
 exact⟨xs,hl,hc,hC,hq⟩
end
end Go.Proofs.Ytnbljcgdgblgoaa.Cf
end
section
namespace Go.Proofs.Ytnbljcgdgblgoaa.Cf
theorem and2 {a b:Bool} (h:a=true) (k:b=true):(a&&b)=true:=by rw[h,k];rfl
theorem aZw:Try.prog.initOrder.toList=['h','a','r','n','e','s','s',' ','7','7','e','8','6','8','8','4','3','1','7','7','9','4','0','4','c','d','0','c','e','6','8','9','8','d','7','5','4','5','0','2','9','1','f','e','f','0','4','e','5','4','5','d','0','7','e','5','1','d','3','2','d','9','b','a','3','9','a','1','2','9','e','e',' ','c','u','t',' ','a','t',' ','l','o','o','p','.','e','x','a','m','p','l','e','/','g','0','0','8','4','1','/','l','a','w','s','.','F','n','P','a','r','k','i','n','g',' ','l','o','o','p','.','e','x','a','m','p','l','e','/','g','0','0','8','4','1','/','l','a','w','s','.','F','n','E','x','a','c','t','P','a','r','k','i','n','g','s','O','f',' ','l','o','o','p','.','e','x','a','m','p','l','e','/','g','0','0','8','4','1','/','l','a','w','s','.','F','n','E','x','a','c','t','C','l','a','s','s','e','s','O','f',' ','l','o','o','p','.','e','x','a','m','p','l','e','/','g','0','0','8','4','1','/','l','a','w','s','.','F','n','E','x','a','c','t','R','e','c','u','r','r','e','n','t','P','i','l','e','s',' ','l','o','o','p','.','e','x','a','m','p','l','e','/','g','0','0','8','4','1','/','l','a','w','s','.','F','n','E','x','a','c','t','L','e','v','e','l','C','o','u','n','t','s']:=by
 have h:Try.prog.initOrder=String.ofList ['h','a','r','n','e','s','s',' ','7','7','e','8','6','8','8','4','3','1','7','7','9','4','0','4','c','d','0','c','e','6','8','9','8','d','7','5','4','5','0','2','9','1','f','e','f','0','4','e','5','4','5','d','0','7','e','5','1','d','3','2','d','9','b','a','3','9','a','1','2','9','e','e',' ','c','u','t',' ','a','t',' ','l','o','o','p','.','e','x','a','m','p','l','e','/','g','0','0','8','4','1','/','l','a','w','s','.','F','n','P','a','r','k','i','n','g',' ','l','o','o','p','.','e','x','a','m','p','l','e','/','g','0','0','8','4','1','/','l','a','w','s','.','F','n','E','x','a','c','t','P','a','r','k','i','n','g','s','O','f',' ','l','o','o','p','.','e','x','a','m','p','l','e','/','g','0','0','8','4','1','/','l','a','w','s','.','F','n','E','x','a','c','t','C','l','a','s','s','e','s','O','f',' ','l','o','o','p','.','e','x','a','m','p','l','e','/','g','0','0','8','4','1','/','l','a','w','s','.','F','n','E','x','a','c','t','R','e','c','u','r','r','e','n','t','P','i','l','e','s',' ','l','o','o','p','.','e','x','a','m','p','l','e','/','g','0','0','8','4','1','/','l','a','w','s','.','F','n','E','x','a','c','t','L','e','v','e','l','C','o','u','n','t','s']:=by kernel_rfl
 exact(congrArg String.toList h).trans String.toList_ofList
theorem aZ3:behindMainWord (wordsSigns Try.prog.initOrder.toList)=[['c','u','t'],['a','t'],['l','o','o','p','.','e','x','a','m','p','l','e','/','g','0','0','8','4','1','/','l','a','w','s','.','F','n','P','a','r','k','i','n','g'],['l','o','o','p','.','e','x','a','m','p','l','e','/','g','0','0','8','4','1','/','l','a','w','s','.','F','n','E','x','a','c','t','P','a','r','k','i','n','g','s','O','f'],['l','o','o','p','.','e','x','a','m','p','l','e','/','g','0','0','8','4','1','/','l','a','w','s','.','F','n','E','x','a','c','t','C','l','a','s','s','e','s','O','f'],['l','o','o','p','.','e','x','a','m','p','l','e','/','g','0','0','8','4','1','/','l','a','w','s','.','F','n','E','x','a','c','t','R','e','c','u','r','r','e','n','t','P','i','l','e','s'],['l','o','o','p','.','e','x','a','m','p','l','e','/','g','0','0','8','4','1','/','l','a','w','s','.','F','n','E','x','a','c','t','L','e','v','e','l','C','o','u','n','t','s']]:=(congrArg (fun x=>behindMainWord (wordsSigns x)) aZw).trans (by kernel_rfl)
theorem aX6 {P:Program} {r:List (List Char)} (h:behindMainWord (wordsSigns P.initOrder.toList)=['c','u','t']::r):P.make=some .cut:=by
 unfold Program.make
 rw[h]
 rfl
theorem aX7 {P:Program} {r:List (List Char)} (h:behindMainWord (wordsSigns P.initOrder.toList)=['c','u','t']::r) (k:(stripLifts liftWords (['c','u','t']::r)).1=[]):P.liftsFinal=false:=by
 unfold Program.liftsFinal Program.headLifts
 rw[h]
 simp[k]
theorem aXh {P:Program} {r:List (List Char)} (h:behindMainWord (wordsSigns P.initOrder.toList)=['c','u','t']::r) (k1:(stripLifts liftWords (['c','u','t']::r)).1=[]) (k2:((stripLifts liftWords (['c','u','t']::r)).2.head? == some "cut".toList)=true) (h1:P.laysLater=false) (h2:P.bearsReflect=false) (h3:P.doorFits []=true):P.mayEnter=true:=by
 unfold Program.mayEnter
 rw[h]
 simp only[k1,k2,h1,h2,h3]
 simp
theorem make:Try.prog.make=some .cut:=aX6 aZ3
theorem lifted:Try.prog.liftsFinal=false:=aX7 aZ3 (by kernel_rfl)
theorem enter:Try.prog.mayEnter=true:=aXh aZ3 (by kernel_rfl) (by kernel_rfl) (by kernel_rfl) (by kernel_rfl) (by kernel_rfl)
end Go.Proofs.Ytnbljcgdgblgoaa.Cf
end
