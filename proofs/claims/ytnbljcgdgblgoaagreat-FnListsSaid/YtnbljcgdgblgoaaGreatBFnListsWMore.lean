/- A part of the proof of aF3. -/
import Derived.Test.YtnbljcgdgblgoaaGreatBFnListsWWords
import Derived.Test.YtnbljcgdgblgoaaGreatBFnListsWLast
import Derived.Test.YtnbljcgdgblgoaaGreatBFnListsWApart
import Derived.Test.YtnbljcgdgblgoaaGreatBFnListsWArr
import Derived.Test.YtnbljcgdgblgoaaGreatBFnListsWFoot
import Derived.Test.YtnbljcgdgblgoaaGreatBFnListsWKept
import Derived.Test.YtnbljcgdgblgoaaGreatBFnListsWNEv
set_option linter.unusedVariables false
set_option linter.unusedSimpArgs false
namespace Go.Proofs.YtnbljcgdgblgoaaGreatW.PrintMore
open Go.RowKit Go.Proofs.YtnbljcgdgblgoaaGreatW.PrintWords
namespace Kd
open Go.Proofs.YtnbljcgdgblgoaaGreatW.PrintWords.Kd
section
variable {α:Type} {d:Kd α} {e base g N:Nat} {ok:Nat->Prop} {W w1:World} {u v:Value} {xs:List α}
theorem bPp (hu:d.R e W base ok u xs) (hb:Below W.heap.size W w1):d.R e w1 base (λk=>ok k/\k<W.heap.size) u xs :=
 aBs (aBn (aFg hu) hb) (λ_ h=>⟨h.1,h.2.2.1⟩)
theorem bEg (h:d.R e w1 base (λk=>ok k/\k<N) u xs) (hbase:∀ k,v.ownBlock=some k->N<=k):d.R e w1 base (λk=>(ok k/\some k≠v.ownBlock)/\k<N) u xs :=
 aBs h (λk hk=>⟨⟨hk.1,λe=>Nat.lt_irrefl _ (Nat.lt_of_lt_of_le hk.2 (hbase k e.symm))⟩,hk.2⟩)
end
end Kd
theorem max2_int (k k':IntKind) (x y:Int):Builtin.max2 (.int k x) (.int k' y)=pure (.int k (if x<y then y else x)):=by simp only[Builtin.max2,gt_iff_lt]
theorem min2_int (k k':IntKind) (x y:Int):Builtin.min2 (.int k x) (.int k' y)=pure (.int k (if y<x then y else x)):=by simp only[Builtin.min2]
theorem max_two (ats:Array TypeId) (ty:TypeId) (a b:Value):Builtin.max_ ats ty #[a,b]=(Builtin.max2 a b >>= λs=>pure s):=by simp only[Builtin.max_,List.foldlM_cons,List.foldlM_nil]
theorem min_two (ats:Array TypeId) (ty:TypeId) (a b:Value):Builtin.min_ ats ty #[a,b]=(Builtin.min2 a b >>= λs=>pure s):=by simp only[Builtin.min_,List.foldlM_cons,List.foldlM_nil]
theorem max_three (ats:Array TypeId) (ty:TypeId) (a b c:Value):Builtin.max_ ats ty #[a,b,c]=(Builtin.max2 a b >>= λs=>Builtin.max2 s c >>= λs=>pure s):=by simp only[Builtin.max_,List.foldlM_cons,List.foldlM_nil]
theorem min_three (ats:Array TypeId) (ty:TypeId) (a b c:Value):Builtin.min_ ats ty #[a,b,c]=(Builtin.min2 a b >>= λs=>Builtin.min2 s c >>= λs=>pure s):=by simp only[Builtin.min_,List.foldlM_cons,List.foldlM_nil]
theorem max_four (ats:Array TypeId) (ty:TypeId) (a b c d:Value):Builtin.max_ ats ty #[a,b,c,d]=(Builtin.max2 a b >>= λs=>Builtin.max2 s c >>= λs=>Builtin.max2 s d >>= λs=>pure s):=by simp only[Builtin.max_,List.foldlM_cons,List.foldlM_nil]
theorem min_four (ats:Array TypeId) (ty:TypeId) (a b c d:Value):Builtin.min_ ats ty #[a,b,c,d]=(Builtin.min2 a b >>= λs=>Builtin.min2 s c >>= λs=>Builtin.min2 s d >>= λs=>pure s):=by simp only[Builtin.min_,List.foldlM_cons,List.foldlM_nil]
end Go.Proofs.YtnbljcgdgblgoaaGreatW.PrintMore
namespace Go.Proofs.YtnbljcgdgblgoaaGreatW.PrintWords
open Go.RowKit
section
variable {P:Program} {ops:Array Oper} {rest:List Oper} {o:Oper} {a:Act} {Q:Exit->Act->World->Prop} {W:World}
theorem aA5 {f:FuncId} {as:Array Operand} {ts:Array TypeId} (_ho:o.op = .call { callee:=.value (.func f),args:=as,argTypes:=ts}) (h:wpList P ops Q (o::rest) a W):wpList P ops Q (o::rest) a W:=h
theorem aBe {b:Builtin} {xs:Array Operand} {ts:Array TypeId} (_ho:o.op = .call { callee:=.builtin b,args:=xs,argTypes:=ts}) (h:wpList P ops Q (o::rest) a W):wpList P ops Q (o::rest) a W:=h
end
def mx (a b:Int):Int:=if a<b then b else a
def mn (a b:Int):Int:=if b<a then b else a
def shl (k:IntKind) (x y:Int):Int:=k.wrap (x*2^min y.toNat k.bits)
def shr (k:IntKind) (x y:Int):Int:=x/2^min y.toNat k.bits
theorem aH0 {k:IntKind} {x y j:Int} (h:shl k x y=j) (hy:y<=k.bits):k.wrap (x*2^y.toNat)=j:=by rw[<-h];unfold shl;rw[Nat.min_eq_left (by omega)]
theorem aKj {k:IntKind} {x y j:Int} (h:shr k x y=j) (hy:y<=k.bits):x/2^y.toNat=j:=by rw[<-h];unfold shr;rw[Nat.min_eq_left (by omega)]
namespace Kd
section
variable {α:Type} {d:Kd α} {e base b b' g N:Nat} {ok ok1:Nat->Prop} {W W2 w1:World} {u v:Value} {xs ys:List α} {S:Nat->Prop}
theorem bEh (hE:d.E=[]) (h:d.R e W base ok1 v xs) (hok:∀ k,v.ownBlock=some k->ok k):d.R e W base ok v xs:=aBs (aLp hE h) (λk hk=>hok k hk.symm)
theorem bHe (h:d.R e W base ok v xs) (hk:Kept W W2 S) (hne:∀ k,ok k->¬ S k):d.R e W2 base (λk=>ok k/\(¬ S k/\k<W.heap.size)) v xs :=
 bM7 (aBs (aFg h) (λk hk=>⟨hk.1,hne k hk.1,hk.2.2.1⟩)) hk (λ_ hk=>hk.2.1)
end
end Kd
end Go.Proofs.YtnbljcgdgblgoaaGreatW.PrintWords
namespace Go.Proofs.YtnbljcgdgblgoaaGreatW.PrintWords
open Go.RowKit
namespace Kd
def V {α:Type} (d:Kd α) (_e:Nat) (W:World) (bUk:Nat) (ok:Nat->Prop) (v:Value) (xs:List α):Prop:=∃ A c,v = .slice A xs.length c/\xs.length<=c/\F d W ok A xs.length xs
section
variable {α β:Type} {d:Kd α} {e base base' n m c g N' lo hi:Nat} {ok ok' S:Nat->Prop} {w W w1:World} {A:Option Addr} {ad:Addr} {u v v1:Value} {xs:List α}
theorem aO4 (h:V d e W base ok v xs) (hF:∀ A,F d W ok A xs.length xs->F d w1 ok' A xs.length xs):V d e w1 base' ok' v xs:=by
 obtain⟨A,c,hv,hl,hf⟩:=h
 exact⟨A,c,hv,hl,hF A hf⟩
theorem bNy (hl:xs.length<=c) (hf:F d W ok A xs.length xs):V d e W base ok (.slice A xs.length c) xs:=⟨A,c,rfl,hl,hf⟩
theorem bNz (h:V d e W base ok (.slice A n c) xs):n=xs.length/\n<=c/\F d W ok A xs.length xs:=by
 obtain⟨A',c',hv,hl,hf⟩:=h
 injection hv with ha hn hc
 subst ha;subst hc
 exact⟨hn,by rw[hn];exact hl,hf⟩
theorem bD5 (h:V d e W base ok (.slice A n c) xs):n=xs.length/\n<=c/\d.C W A xs.length xs:=⟨(bNz h).1,(bNz h).2.1,bQ3 (bNz h).2.2⟩
theorem V_F (h:V d e W base ok (.slice A n c) xs):F d W ok A n xs:=by
 obtain⟨hn,_,hf⟩:=bNz h
 rw[hn]
 exact hf
theorem aK0 (h:V d e W base ok v xs) (hok:∀ k,ok k->ok' k):V d e W base ok' v xs:=aO4 h (λ_ hf=>aVl hf hok)
theorem bH9 (h:V d e W base ok v xs) (_:base'<=base):V d e W base' ok v xs:=h
theorem aNp (h:V d e W base ok v xs) (hb:Below W.heap.size W w1):V d e w1 base ok v xs:=aO4 h (λ_ hf=>aPv hf hb)
theorem aKa (h:V d e W base ok v xs) (o:Obj):V d e (W.alloc o) base ok v xs:=aO4 h (λ_ hf=>bHl hf o)
theorem aM7 (h:V d e W base ok v xs):V d e W.drew base ok v xs:=aO4 h (λ_ hf=>bMm hf)
theorem aK9 (h:V d e W base ok v xs) (m:Nat):V d e (W.drewN m) base ok v xs:=aO4 h (λ_ hf=>bHk hf m)
theorem aWs (h:V d e W base ok v xs) {p:Addr} (hok:∀ k,ok k->k≠p.block) (u:Value):V d e (W.setCell p u) base ok v xs:=aO4 h (λ_ hf=>bQ4 hf hok u)
theorem bEd (h:V d e W base ok v xs) (hk:aAw W w1 g none) (hok:∀ k,ok k->k≠g):V d e w1 base ok v xs:=aO4 h (λ_ hf=>bMl hf hk hok)
theorem bHa (h:V d e W base (λk=>ok k/\some k≠u.ownBlock) v xs) (hg:W.grownBy w1 u.ownBlock) (hat:v1.ownBlock=u.ownBlock∨∃ b,v1.ownBlock=some b/\W.heap.size<=b):V d e w1 base (λk=>ok k/\some k≠v1.ownBlock) v xs:=aO4 h (λ_ hf=>bHm hf hg hat)
theorem bD7 (h:V d e W base (λk=>ok k/\some k≠v.ownBlock) u xs) (hg:W.grownBy w1 v.ownBlock) (hat:v1.ownBlock=v.ownBlock∨∃ b,v1.ownBlock=some b/\W.heap.size<=b):V d e w1 base (λk=>ok k/\some k≠v1.ownBlock) u xs:=bHa h hg hat
theorem bDd (h:N d e W base (λk=>ok k/\some k≠v.ownBlock) u xs) (hg:W.grownBy w1 v.ownBlock) (hat:v1.ownBlock=v.ownBlock∨∃ b,v1.ownBlock=some b/\W.heap.size<=b):N d e w1 base (λk=>ok k/\some k≠v1.ownBlock) u xs:=bHf h hg hat
theorem aVj (h:V d e W base ok v xs) (hbase:∀ k,u.ownBlock=some k->W.heap.size<=k) (hb:Below W.heap.size W w1):V d e w1 base (λk=>ok k/\some k≠u.ownBlock) v xs:=aO4 h (λ_ hf=>bDh hf hbase hb)
theorem bD6 (h:V d e W base ok v xs) (a:Nat) (ha:W.heap.size<=a):V d e W base (λk=>ok k/\k≠a) v xs:=aO4 h (λ_ hf=>bDg hf a ha)
theorem aGu {l:List α} {cs:List Value} (h:FK (Kd.slice e d) W ok l cs):∃ A c,cs=[.slice A l.length c]/\l.length<=c/\F d W ok A l.length l:=by
 obtain⟨A,c,rfl,hl,_⟩:=aOr h
 refine⟨A,c,rfl,hl,λW' hW=>?_⟩
 obtain⟨A',c',he,_,g'⟩:=h W' hW
 injection he with he _
 injection he with ha _ _
 rw[ha]
 exact g'
theorem aTu {l:List α} (hl:l.length<=c) (hf:F d W ok A l.length l):FK (Kd.slice e d) W ok l [.slice A l.length c]:=λW' hW=>⟨A,c,rfl,hl,hf W' hW⟩
theorem bA9 {M:Nat->Prop} (h:d.R e w1 W.heap.size ok v xs) (hle:w.heap.size<=W.heap.size) (hM:∀ k,w.heap.size<=k->M k):d.R e w1 W.heap.size (λk=>M k/\ok k) v xs:=aBs (aFg h) (λk hk=>⟨hM k (Nat.le_trans hle hk.2.1),hk.1⟩)
end
end Kd
end Go.Proofs.YtnbljcgdgblgoaaGreatW.PrintWords
