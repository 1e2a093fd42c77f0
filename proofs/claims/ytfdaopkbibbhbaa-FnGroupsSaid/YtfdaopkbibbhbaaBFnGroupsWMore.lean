/- A part of the proof of aE2. -/
import Derived.Test.YtfdaopkbibbhbaaBFnGroupsWWords
import Derived.Test.YtfdaopkbibbhbaaBFnGroupsWLast
import Derived.Test.YtfdaopkbibbhbaaBFnGroupsWApart
import Derived.Test.YtfdaopkbibbhbaaBFnGroupsWArr
import Derived.Test.YtfdaopkbibbhbaaBFnGroupsWFoot
import Derived.Test.YtfdaopkbibbhbaaBFnGroupsWKept
import Derived.Test.YtfdaopkbibbhbaaBFnGroupsWN
set_option linter.unusedVariables false
set_option linter.unusedSimpArgs false
namespace Go.Proofs.YtfdaopkbibbhbaaW.PrintMore
open Go.RowKit Go.Proofs.YtfdaopkbibbhbaaW.PrintWords
namespace Kd
open Go.Proofs.YtfdaopkbibbhbaaW.PrintWords.Kd
section
variable {α:Type} {d:Kd α} {e base g N:Nat} {ok:Nat->Prop} {W w1:World} {u v:Value} {xs:List α}
theorem bHm (hu:d.R e W base ok u xs) (hb:Below W.heap.size W w1):d.R e w1 base (λk=>ok k/\k<W.heap.size) u xs :=
 aBh (aBp (aFa hu) hb) (λ_ h=>⟨h.1,h.2.2.1⟩)
theorem aYy (h:d.R e w1 base (λk=>ok k/\k<N) u xs) (hbase:∀ k,v.ownBlock=some k->N<=k):d.R e w1 base (λk=>(ok k/\some k≠v.ownBlock)/\k<N) u xs :=
 aBh h (λk hk=>⟨⟨hk.1,λe=>Nat.lt_irrefl _ (Nat.lt_of_lt_of_le hk.2 (hbase k e.symm))⟩,hk.2⟩)
end
end Kd
theorem max2_int (k k':IntKind) (x y:Int):Builtin.max2 (.int k x) (.int k' y)=pure (.int k (if x<y then y else x)):=by simp only[Builtin.max2,gt_iff_lt]
theorem min2_int (k k':IntKind) (x y:Int):Builtin.min2 (.int k x) (.int k' y)=pure (.int k (if y<x then y else x)):=by simp only[Builtin.min2]
theorem max_two (ats:Array TypeId) (ty:TypeId) (a b:Value):Builtin.max_ ats ty #[a,b]=(Builtin.max2 a b >>= λs=>pure s):=by simp only[Builtin.max_,List.foldlM_cons,List.foldlM_nil]
theorem min_two (ats:Array TypeId) (ty:TypeId) (a b:Value):Builtin.min_ ats ty #[a,b]=(Builtin.min2 a b >>= λs=>pure s):=by simp only[Builtin.min_,List.foldlM_cons,List.foldlM_nil]
theorem max_three (ats:Array TypeId) (ty:TypeId) (a b c:Value):Builtin.max_ ats ty #[a,b,c]=(Builtin.max2 a b >>= λs=>Builtin.max2 s c >>= λs=>pure s):=by simp only[Builtin.max_,List.foldlM_cons,List.foldlM_nil]
theorem min_three (ats:Array TypeId) (ty:TypeId) (a b c:Value):Builtin.min_ ats ty #[a,b,c]=(Builtin.min2 a b >>= λs=>Builtin.min2 s c >>= λs=>pure s):=by simp only[Builtin.min_,List.foldlM_cons,List.foldlM_nil]
theorem max_four (ats:Array TypeId) (ty:TypeId) (a b c d:Value):Builtin.max_ ats ty #[a,b,c,d]=(Builtin.max2 a b >>= λs=>Builtin.max2 s c >>= λs=>Builtin.max2 s d >>= λs=>pure s):=by simp only[Builtin.max_,List.foldlM_cons,List.foldlM_nil]
theorem min_four (ats:Array TypeId) (ty:TypeId) (a b c d:Value):Builtin.min_ ats ty #[a,b,c,d]=(Builtin.min2 a b >>= λs=>Builtin.min2 s c >>= λs=>Builtin.min2 s d >>= λs=>pure s):=by simp only[Builtin.min_,List.foldlM_cons,List.foldlM_nil]
end Go.Proofs.YtfdaopkbibbhbaaW.PrintMore
namespace Go.Proofs.YtfdaopkbibbhbaaW.PrintWords
open Go.RowKit
section
variable {P:Program} {ops:Array Oper} {rest:List Oper} {o:Oper} {a:Act} {Q:Exit->Act->World->Prop} {W:World}
theorem aAa {f:FuncId} {as:Array Operand} {ts:Array TypeId} (_ho:o.op = .call { callee:=.value (.func f),args:=as,argTypes:=ts}) (h:wpList P ops Q (o::rest) a W):wpList P ops Q (o::rest) a W:=h
theorem aBk {b:Builtin} {xs:Array Operand} {ts:Array TypeId} (_ho:o.op = .call { callee:=.builtin b,args:=xs,argTypes:=ts}) (h:wpList P ops Q (o::rest) a W):wpList P ops Q (o::rest) a W:=h
end
def mx (a b:Int):Int:=if a<b then b else a
def mn (a b:Int):Int:=if b<a then b else a
def shl (k:IntKind) (x y:Int):Int:=k.wrap (x*2^min y.toNat k.bits)
def shr (k:IntKind) (x y:Int):Int:=x/2^min y.toNat k.bits
theorem aGb {k:IntKind} {x y j:Int} (h:shl k x y=j) (hy:y<=k.bits):k.wrap (x*2^y.toNat)=j:=by rw[<-h];unfold shl;rw[Nat.min_eq_left (by omega)]
theorem aIs {k:IntKind} {x y j:Int} (h:shr k x y=j) (hy:y<=k.bits):x/2^y.toNat=j:=by rw[<-h];unfold shr;rw[Nat.min_eq_left (by omega)]
theorem aSn (w:World) (n:Nat):w.drewN n=w.drewN n:=rfl
namespace Kd
section
variable {α:Type} {d:Kd α} {e base b b' g N:Nat} {ok ok1:Nat->Prop} {W W2 w1:World} {u v:Value} {xs ys:List α} {S:Nat->Prop}
theorem aYz (hE:d.E=[]) (h:d.R e W base ok1 v xs) (hok:∀ k,v.ownBlock=some k->ok k):d.R e W base ok v xs:=aBh (aNo hE h) (λk hk=>hok k hk.symm)
theorem aQa (h:d.R e W base ok v xs) (hk:Kept W W2 S) (hne:∀ k,ok k->¬ S k):d.R e W2 base (λk=>ok k/\(¬ S k/\k<W.heap.size)) v xs :=
 bF7 (aBh (aFa h) (λk hk=>⟨hk.1,hne k hk.1,hk.2.2.1⟩)) hk (λ_ hk=>hk.2.1)
end
end Kd
end Go.Proofs.YtfdaopkbibbhbaaW.PrintWords
