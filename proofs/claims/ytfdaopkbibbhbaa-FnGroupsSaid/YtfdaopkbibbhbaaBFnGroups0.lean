/- A part of the proof of aE2. -/
import Derived.Test.YtfdaopkbibbhbaaProg
import Derived.Below
import Derived.Deep.Draws
import Derived.Deep.AppendLies
import Derived.Maps.AppendAt
import Derived.OwnWalk
import Derived.Laws.BytesArg
import Derived.Laws.MakeOwn
import Derived.Laws.OwnMore
import Derived.Deep.OwnRows
import Derived.Tactics
import Derived.Lib.ConvBytes
import Derived.Laws.Slices
import Derived.WalkKit
import Derived.KernelRfl
import Derived.RowKit3
import Derived.Deep.LoopGhost
import Derived.Deep.QuietTactic
import Derived.BigQuiet
import Derived.WideLaws
import Derived.Deep.DeepCutAuto
import Derived.Deep.CutBlock
import Derived.Deep.RegionHeld3
import Derived.Laws.Rows
import Derived.Lib.AppendStr
import Derived.ArgAppend
import Derived.Laws.IdiomCopy
import Derived.OrdersHeld
import Derived.Laws.BitsLemmas
import Derived.RowKit
import Derived.Test.YtfdaopkbibbhbaaBFnGroupsWWords
import Derived.Test.YtfdaopkbibbhbaaBFnGroupsWLast
import Derived.Test.YtfdaopkbibbhbaaBFnGroupsWTab
import Derived.Test.YtfdaopkbibbhbaaBFnGroupsWApart
import Derived.Test.YtfdaopkbibbhbaaBFnGroupsWArr
import Derived.Test.YtfdaopkbibbhbaaBFnGroupsWFoot
import Derived.Test.YtfdaopkbibbhbaaBFnGroupsWKept
import Derived.Test.YtfdaopkbibbhbaaBFnGroupsWShare
import Derived.Test.YtfdaopkbibbhbaaBFnGroupsWN
import Derived.Laws.StructEq
import Derived.Test.YtfdaopkbibbhbaaBFnGroupsWRepsOne
import Derived.Test.YtfdaopkbibbhbaaBFnGroupsWInv
import Derived.Test.YtfdaopkbibbhbaaBFnGroupsWGuard
import Derived.Test.YtfdaopkbibbhbaaBFnGroupsWMore
set_option linter.unusedVariables false
set_option linter.unusedSimpArgs false
set_option maxHeartbeats 8000000
set_option maxRecDepth 100000
namespace Go.Proofs.Ytfdaopkbibbhbaa
theorem zdT {p:Prop} [Decidable p] (h:decide p=true):p:=of_decide_eq_true h
theorem zdY {p:Prop} [Decidable p] (h:p):decide p=true:=decide_eq_true h
theorem zdN {p:Prop} [Decidable p] (h:¬ p):decide p=false:=decide_eq_false h
theorem zdI {α:Type} {a b:α} (h:some a=some b):a=b:=Option.some.inj h
theorem zdB {b:Bool} (h:b≠true):b=false:=Bool.eq_false_iff.mpr h
theorem zdG {α:Type} {l:List α} {i:Nat} {a:α}:l.getD i a=(l[i]?).getD a:=List.getD_eq_getElem?_getD
theorem zdH {α:Type} {l:List α} {i:Nat} (h:i<l.length):l[i]? = some l[i]:=List.getElem?_eq_getElem h
end Go.Proofs.Ytfdaopkbibbhbaa
namespace Go.Proofs.Ytfdaopkbibbhbaa
open Go.RowKit Go.Proofs.YtfdaopkbibbhbaaW.PrintWords Go.Proofs.YtfdaopkbibbhbaaW.PrintLast Go.Proofs.YtfdaopkbibbhbaaW.PrintMore
attribute [local go_sem] max2_int min2_int max_two min_two max_three min_three max_four min_four
namespace Cf
structure E where
 f0:Int
 f1:Int
 deriving DecidableEq
end Cf
namespace P
def bIf:Option Int->Value
 | none=>.nilIface
 | some c=>.iface 0 (.int .i64 c)
theorem aDd:bIf none = .nilIface:=rfl
theorem aDc (c:Int):bIf (some c) = .iface 0 (.int .i64 c):=rfl
theorem info3:(Try.prog.info? 3).map (λi=>(i.zero,i.size,i.bytes))=some (some (.int .i64 0),1,8):=by kernel_rfl
theorem aOn:(Try.prog.info? 42).map (λi=>(i.zero,i.size,i.bytes))=some (some (.slice none 0 0),1,24):=by kernel_rfl
theorem aIa:(Try.prog.info? 73).map (λi=>(i.zero,i.size,i.bytes))=some (some (.agg #[(.int .i64 0),(.int .i64 0)]),2,16):=by kernel_rfl
abbrev S73:=Go.Proofs.Ytfdaopkbibbhbaa.Cf.E
def z73:S73:=⟨(0:Int),(0:Int)⟩
def k73:Kd S73:=Kd.iso (Kd.pair (Kd.int .i64) (Kd.int .i64)) (λx:S73=>(x.f0,x.f1))
theorem aNe:Kd.Heap k73:=Kd.aXg _ (Kd.aUm (Kd.aRa .i64) (Kd.aRa .i64))
theorem aX6 {w:World} {x:S73} {cs:List Value} (h:k73.K w x cs):cs=[.int .i64 x.f0,.int .i64 x.f1]:=by
 obtain⟨_,_,rfl,rfl,rfl⟩:=h
 exact rfl
theorem aGm (w:World) (base:Nat) (ok:Nat->Prop) (x:S73) :k73.M w base ok x [.int .i64 x.f0,.int .i64 x.f1]:=⟨[.int .i64 x.f0],[.int .i64 x.f1],rfl,rfl,rfl⟩
def aA2 (xs:List S73) (i:Int):S73:=xs.getD i.toNat z73
theorem aDi {w:World} {A:Option Addr} {n:Nat} {xs:List S73} (h:Kd.C k73 w A n xs) (i:Int) (h0:0<=i) (h1:i<n):∃ ad ,A=some ad/\w.cell? (ad.add (i.toNat*2))=some (.int .i64 (aA2 xs i).f0)/\w.cell? ⟨(ad.add (i.toNat*2)).block,(ad.add (i.toNat*2)).off+1,none⟩=some (.int .i64 (aA2 xs i).f1):=by
 obtain⟨ad,c,e,_,hK,hc0⟩:=Kd.bFh h z73 i h0 h1
 have hc:∀ j u,c[j]? = some u->w.cell? (ad.add (i.toNat*2+j))=some u:=hc0
 obtain rfl:=aX6 hK
 exact⟨ad,e,hc 0 _ rfl,by rw[<-aVc _ _ 1 (by omega)];exact hc 1 _ rfl⟩
structure S25 where
 f0:Int
 f1:(List S73)
def z25:S25:=⟨(0:Int),([]:List S73)⟩
def aDo (xs:List (List Int)) (i:Int):(List Int):=xs.getD i.toNat ([]:List Int)
theorem aSq {w:World} {A:Option Addr} {n:Nat} {xs:List (List Int)} (h:Kd.C (Kd.slice 3 (Kd.int .i64)) w A n xs) (i:Int) (h0:0<=i) (h1:i<n):∃ ad A0 c0,A=some ad/\w.cell? (ad.add i.toNat)=some (.slice A0 (aDo xs i).length c0)/\(aDo xs i).length<=c0/\(Kd.int .i64).C w A0 (aDo xs i).length (aDo xs i):=by
 obtain⟨ad,c,e,_,hK,hc0⟩:=Kd.bFh h ([]:List Int) i h0 h1
 have hc:∀ j u,c[j]? = some u->w.cell? (ad.add (i.toNat*1+j))=some u:=hc0
 obtain⟨A0,c0,rfl,l0,g0⟩:=hK
 exact⟨ad,A0,c0,e,by have hq:=hc 0 _ rfl;rwa[Nat.mul_one,Nat.add_zero]at hq,l0,g0⟩
theorem zO_ {α β:Type} {x:Option α} {f:α->Option β} {b:β} (h:x.bind f=some b):∃ a,x=some a/\f a=some b:=Option.bind_eq_some_iff.mp h
theorem zK_ {p:Prop} (h:p):aA1 p:=⟨h⟩
theorem zA2 {p0 p1:Prop} (h0:p0) (h1:p1):aA1 p0/\aA1 p1:=⟨⟨h0⟩,⟨h1⟩⟩
theorem zA3 {p0 p1 p2:Prop} (h0:p0) (h1:p1) (h2:p2):aA1 p0/\aA1 p1/\aA1 p2:=⟨⟨h0⟩,⟨h1⟩,⟨h2⟩⟩
theorem zA4 {p0 p1 p2 p3:Prop} (h0:p0) (h1:p1) (h2:p2) (h3:p3):aA1 p0/\aA1 p1/\aA1 p2/\aA1 p3:=⟨⟨h0⟩,⟨h1⟩,⟨h2⟩,⟨h3⟩⟩
theorem zA5 {p0 p1 p2 p3 p4:Prop} (h0:p0) (h1:p1) (h2:p2) (h3:p3) (h4:p4):aA1 p0/\aA1 p1/\aA1 p2/\aA1 p3/\aA1 p4:=⟨⟨h0⟩,⟨h1⟩,⟨h2⟩,⟨h3⟩,⟨h4⟩⟩
theorem zA6 {p0 p1 p2 p3 p4 p5:Prop} (h0:p0) (h1:p1) (h2:p2) (h3:p3) (h4:p4) (h5:p5):aA1 p0/\aA1 p1/\aA1 p2/\aA1 p3/\aA1 p4/\aA1 p5:=⟨⟨h0⟩,⟨h1⟩,⟨h2⟩,⟨h3⟩,⟨h4⟩,⟨h5⟩⟩
theorem zA7 {p0 p1 p2 p3 p4 p5 p6:Prop} (h0:p0) (h1:p1) (h2:p2) (h3:p3) (h4:p4) (h5:p5) (h6:p6):aA1 p0/\aA1 p1/\aA1 p2/\aA1 p3/\aA1 p4/\aA1 p5/\aA1 p6:=⟨⟨h0⟩,⟨h1⟩,⟨h2⟩,⟨h3⟩,⟨h4⟩,⟨h5⟩,⟨h6⟩⟩
theorem zA8 {p0 p1 p2 p3 p4 p5 p6 p7:Prop} (h0:p0) (h1:p1) (h2:p2) (h3:p3) (h4:p4) (h5:p5) (h6:p6) (h7:p7):aA1 p0/\aA1 p1/\aA1 p2/\aA1 p3/\aA1 p4/\aA1 p5/\aA1 p6/\aA1 p7:=⟨⟨h0⟩,⟨h1⟩,⟨h2⟩,⟨h3⟩,⟨h4⟩,⟨h5⟩,⟨h6⟩,⟨h7⟩⟩
theorem zA9 {p0 p1 p2 p3 p4 p5 p6 p7 p8:Prop} (h0:p0) (h1:p1) (h2:p2) (h3:p3) (h4:p4) (h5:p5) (h6:p6) (h7:p7) (h8:p8):aA1 p0/\aA1 p1/\aA1 p2/\aA1 p3/\aA1 p4/\aA1 p5/\aA1 p6/\aA1 p7/\aA1 p8:=⟨⟨h0⟩,⟨h1⟩,⟨h2⟩,⟨h3⟩,⟨h4⟩,⟨h5⟩,⟨h6⟩,⟨h7⟩,⟨h8⟩⟩
theorem bCa {p0 p1 p2 p3 p4 p5 p6 p7 p8 p9:Prop} (h0:p0) (h1:p1) (h2:p2) (h3:p3) (h4:p4) (h5:p5) (h6:p6) (h7:p7) (h8:p8) (h9:p9):aA1 p0/\aA1 p1/\aA1 p2/\aA1 p3/\aA1 p4/\aA1 p5/\aA1 p6/\aA1 p7/\aA1 p8/\aA1 p9:=⟨⟨h0⟩,⟨h1⟩,⟨h2⟩,⟨h3⟩,⟨h4⟩,⟨h5⟩,⟨h6⟩,⟨h7⟩,⟨h8⟩,⟨h9⟩⟩
theorem bGm {p0 p1 p2 p3 p4 p5 p6 p7 p8 p9 p10:Prop} (h0:p0) (h1:p1) (h2:p2) (h3:p3) (h4:p4) (h5:p5) (h6:p6) (h7:p7) (h8:p8) (h9:p9) (h10:p10):aA1 p0/\aA1 p1/\aA1 p2/\aA1 p3/\aA1 p4/\aA1 p5/\aA1 p6/\aA1 p7/\aA1 p8/\aA1 p9/\aA1 p10:=⟨⟨h0⟩,⟨h1⟩,⟨h2⟩,⟨h3⟩,⟨h4⟩,⟨h5⟩,⟨h6⟩,⟨h7⟩,⟨h8⟩,⟨h9⟩,⟨h10⟩⟩
theorem bJr {p0 p1 p2 p3 p4 p5 p6 p7 p8 p9 p10 p11 p12:Prop} (h0:p0) (h1:p1) (h2:p2) (h3:p3) (h4:p4) (h5:p5) (h6:p6) (h7:p7) (h8:p8) (h9:p9) (h10:p10) (h11:p11) (h12:p12):aA1 p0/\aA1 p1/\aA1 p2/\aA1 p3/\aA1 p4/\aA1 p5/\aA1 p6/\aA1 p7/\aA1 p8/\aA1 p9/\aA1 p10/\aA1 p11/\aA1 p12:=⟨⟨h0⟩,⟨h1⟩,⟨h2⟩,⟨h3⟩,⟨h4⟩,⟨h5⟩,⟨h6⟩,⟨h7⟩,⟨h8⟩,⟨h9⟩,⟨h10⟩,⟨h11⟩,⟨h12⟩⟩
theorem bI5 {p0 p1 p2 p3 p4 p5 p6 p7 p8 p9 p10 p11 p12 p13 p14:Prop} (h0:p0) (h1:p1) (h2:p2) (h3:p3) (h4:p4) (h5:p5) (h6:p6) (h7:p7) (h8:p8) (h9:p9) (h10:p10) (h11:p11) (h12:p12) (h13:p13) (h14:p14):aA1 p0/\aA1 p1/\aA1 p2/\aA1 p3/\aA1 p4/\aA1 p5/\aA1 p6/\aA1 p7/\aA1 p8/\aA1 p9/\aA1 p10/\aA1 p11/\aA1 p12/\aA1 p13/\aA1 p14:=⟨⟨h0⟩,⟨h1⟩,⟨h2⟩,⟨h3⟩,⟨h4⟩,⟨h5⟩,⟨h6⟩,⟨h7⟩,⟨h8⟩,⟨h9⟩,⟨h10⟩,⟨h11⟩,⟨h12⟩,⟨h13⟩,⟨h14⟩⟩
theorem bD0 {p0 p1 p2 p3 p4 p5 p6 p7 p8 p9 p10 p11 p12 p13 p14 p15 p16:Prop} (h0:p0) (h1:p1) (h2:p2) (h3:p3) (h4:p4) (h5:p5) (h6:p6) (h7:p7) (h8:p8) (h9:p9) (h10:p10) (h11:p11) (h12:p12) (h13:p13) (h14:p14) (h15:p15) (h16:p16):aA1 p0/\aA1 p1/\aA1 p2/\aA1 p3/\aA1 p4/\aA1 p5/\aA1 p6/\aA1 p7/\aA1 p8/\aA1 p9/\aA1 p10/\aA1 p11/\aA1 p12/\aA1 p13/\aA1 p14/\aA1 p15/\aA1 p16:=⟨⟨h0⟩,⟨h1⟩,⟨h2⟩,⟨h3⟩,⟨h4⟩,⟨h5⟩,⟨h6⟩,⟨h7⟩,⟨h8⟩,⟨h9⟩,⟨h10⟩,⟨h11⟩,⟨h12⟩,⟨h13⟩,⟨h14⟩,⟨h15⟩,⟨h16⟩⟩
theorem bFw {p0 p1 p2 p3 p4 p5 p6 p7 p8 p9 p10 p11 p12 p13 p14 p15 p16 p17 p18:Prop} (h0:p0) (h1:p1) (h2:p2) (h3:p3) (h4:p4) (h5:p5) (h6:p6) (h7:p7) (h8:p8) (h9:p9) (h10:p10) (h11:p11) (h12:p12) (h13:p13) (h14:p14) (h15:p15) (h16:p16) (h17:p17) (h18:p18):aA1 p0/\aA1 p1/\aA1 p2/\aA1 p3/\aA1 p4/\aA1 p5/\aA1 p6/\aA1 p7/\aA1 p8/\aA1 p9/\aA1 p10/\aA1 p11/\aA1 p12/\aA1 p13/\aA1 p14/\aA1 p15/\aA1 p16/\aA1 p17/\aA1 p18:=⟨⟨h0⟩,⟨h1⟩,⟨h2⟩,⟨h3⟩,⟨h4⟩,⟨h5⟩,⟨h6⟩,⟨h7⟩,⟨h8⟩,⟨h9⟩,⟨h10⟩,⟨h11⟩,⟨h12⟩,⟨h13⟩,⟨h14⟩,⟨h15⟩,⟨h16⟩,⟨h17⟩,⟨h18⟩⟩
theorem bI4 {p0 p1 p2 p3 p4 p5 p6 p7 p8 p9 p10 p11 p12 p13 p14 p15 p16 p17 p18 p19:Prop} (h0:p0) (h1:p1) (h2:p2) (h3:p3) (h4:p4) (h5:p5) (h6:p6) (h7:p7) (h8:p8) (h9:p9) (h10:p10) (h11:p11) (h12:p12) (h13:p13) (h14:p14) (h15:p15) (h16:p16) (h17:p17) (h18:p18) (h19:p19):aA1 p0/\aA1 p1/\aA1 p2/\aA1 p3/\aA1 p4/\aA1 p5/\aA1 p6/\aA1 p7/\aA1 p8/\aA1 p9/\aA1 p10/\aA1 p11/\aA1 p12/\aA1 p13/\aA1 p14/\aA1 p15/\aA1 p16/\aA1 p17/\aA1 p18/\aA1 p19:=⟨⟨h0⟩,⟨h1⟩,⟨h2⟩,⟨h3⟩,⟨h4⟩,⟨h5⟩,⟨h6⟩,⟨h7⟩,⟨h8⟩,⟨h9⟩,⟨h10⟩,⟨h11⟩,⟨h12⟩,⟨h13⟩,⟨h14⟩,⟨h15⟩,⟨h16⟩,⟨h17⟩,⟨h18⟩,⟨h19⟩⟩
theorem aCg {W:World} {g:Nat} {t:TypeId} {a0 a1:Value} (h:Go.Proofs.YtfdaopkbibbhbaaW.PrintWords.aA1 (W.heap[g]? = some (.cells #[a0,a1] t (0,0)))):W.cell? ⟨g,0,none⟩=some a0:=(Go.Proofs.YtfdaopkbibbhbaaW.PrintWords.aAs h.out 0).trans rfl
theorem aCf {W:World} {g:Nat} {t:TypeId} {a0 a1:Value} (h:Go.Proofs.YtfdaopkbibbhbaaW.PrintWords.aA1 (W.heap[g]? = some (.cells #[a0,a1] t (0,0)))):W.cell? ⟨g,1,none⟩=some a1:=(Go.Proofs.YtfdaopkbibbhbaaW.PrintWords.aAs h.out 1).trans rfl
theorem zzY {p:Prop} (h:p:=by first|(rw[hy_];with_reducible exact H)|(have H2_:=(Option.bind_some _ _).symm.trans H;rw[hy_];with_reducible exact H2_)|(have H2_:=(Option.bind_some _ _).symm.trans H;with_reducible exact H2_)|with_reducible exact H|(rw[hy_];exact H)|exact H):p:=h
def zL:Nat->Nat->List Bool
 | 0,_=>[]
 | n+1,m=>Nat.beq (m%2) 1::zL n (m/2)
def zM (n m:Nat):Array Bool:=⟨zL n m⟩
theorem zP {P:Program} {ops:Array Oper} {Q:Exit->Act->World->Prop} {md:Region.Mode} {S:World->Prop} {ds:List Nat} {T:Bool×List (List Nat×List Nat)} {oi:Oper} {fuel:Nat} {l:Array Bool} {a:Act} {w:World} (i:Nat) (N:Tmp) (v:Value) (l':Array Bool) (hi:ops[i]? = some oi) (hN:oi.dst=some N) (hT:aI2 md ops=T) (hy:∀ w,(execOp a.eval oi).run P w = .ok (.value v) w) (a':Act) (ha:a.put (some N) v=a')
  (h:aBw P md ops Q S ds fuel l' a' w) (hw:Region.wanted oi (yielded ops a.tmps)=true:=by rfl) (hc:bEy T l.toList l'.toList i=true:=by kernel_rfl) (hQ:∀ c a w,Q (.panic c) (a.put oi.dst v) w->Q (.panic c) a w:=by exact λ_ _ _ h=>h):aBw P md ops Q S ds (fuel+1) l a w:=Go.Proofs.YtfdaopkbibbhbaaW.PrintLast.aN6 l' hi hN (aYx hT hc) hQ (Or.inl ⟨hw,hy⟩) ha h
theorem zU {P:Program} {ops:Array Oper} {Q:Exit->Act->World->Prop} {md:Region.Mode} {S:World->Prop} {ds:List Nat} {T:Bool×List (List Nat×List Nat)} {oi:Oper} {fuel:Nat} {l:Array Bool} {a:Act} {w:World} (i:Nat) (N:Tmp) (l':Array Bool) (hi:ops[i]? = some oi) (hN:oi.dst=some N) (hT:aI2 md ops=T) (a':Act) (ha:a.put (some N) undef=a')
  (h:aBw P md ops Q S ds fuel l' a' w) (hw:Region.wanted oi (yielded ops a.tmps)=false:=by rfl) (hc:bEy T l.toList l'.toList i=true:=by kernel_rfl) (hQ:∀ c a w,Q (.panic c) (a.put oi.dst undef) w->Q (.panic c) a w:=by exact λ_ _ _ h=>h):aBw P md ops Q S ds (fuel+1) l a w:=Go.Proofs.YtfdaopkbibbhbaaW.PrintLast.aN6 l' hi hN (aYx hT hc) hQ (Or.inr ⟨hw,rfl⟩) ha h
theorem zm0 {p:Prop} (h:p:=by repeat' first|(with_reducible apply ih0)|(with_reducible exact LeO.refl _)|(with_reducible exact LeO.none _)|(with_reducible refine LeO.ite ?_ ?_)|(with_reducible refine LeO.bind ?_ (λ_=>?_))|apply ih0|exact LeO.none _|refine LeO.ite ?_ ?_|refine LeO.bind ?_ (λ_=>?_)):p:=h
theorem zm1 {p:Prop} (h:p:=by repeat' first|(with_reducible apply ih0)|(with_reducible apply ih1)|(with_reducible exact LeO.refl _)|(with_reducible exact LeO.none _)|(with_reducible refine LeO.ite ?_ ?_)|(with_reducible refine LeO.bind ?_ (λ_=>?_))|apply ih0|apply ih1|exact LeO.none _|refine LeO.ite ?_ ?_|refine LeO.bind ?_ (λ_=>?_)):p:=h
theorem zm2 {p:Prop} (h:p:=by repeat' first|(with_reducible apply ih0)|(with_reducible apply ih1)|(with_reducible apply ih2)|(with_reducible apply ih3)|(with_reducible apply ih4)|(with_reducible apply aAl.mono)|(with_reducible apply aAe.mono)|(with_reducible exact LeO.refl _)|(with_reducible exact LeO.none _)|(with_reducible refine LeO.ite ?_ ?_)|(with_reducible refine LeO.bind ?_ (λ_=>?_))|apply ih0|apply ih1|apply ih2|apply ih3|apply ih4|apply aAl.mono|apply aAe.mono|exact LeO.none _|refine LeO.ite ?_ ?_|refine LeO.bind ?_ (λ_=>?_)):p:=h
theorem zm3 {p:Prop} (h:p:=by repeat' first|(with_reducible apply ih0)|(with_reducible apply ih1)|(with_reducible apply aAd.mono)|(with_reducible apply aCl.mono)|(with_reducible apply aC9.mono)|(with_reducible apply aBl.mono)|(with_reducible apply aBf.mono)|(with_reducible apply aAk.mono)|(with_reducible apply aC2.mono)|(with_reducible apply aD4.mono)|(with_reducible apply aBy.mono)|(with_reducible exact LeO.refl _)|(with_reducible exact LeO.none _)|(with_reducible refine LeO.ite ?_ ?_)|(with_reducible refine LeO.bind ?_ (λ_=>?_))|apply ih0|apply ih1|apply aAd.mono|apply aCl.mono|apply aC9.mono|apply aBl.mono|apply aBf.mono|apply aAk.mono|apply aC2.mono|apply aD4.mono|apply aBy.mono|exact LeO.none _|refine LeO.ite ?_ ?_|refine LeO.bind ?_ (λ_=>?_)):p:=h
theorem zm4 {p:Prop} (h:p:=by repeat' first|(with_reducible apply ih0)|(with_reducible apply ih1)|(with_reducible apply ih2)|(with_reducible apply ih3)|(with_reducible apply aAb.mono)|(with_reducible apply aBb.mono)|(with_reducible exact LeO.refl _)|(with_reducible exact LeO.none _)|(with_reducible refine LeO.ite ?_ ?_)|(with_reducible refine LeO.bind ?_ (λ_=>?_))|apply ih0|apply ih1|apply ih2|apply ih3|apply aAb.mono|apply aBb.mono|exact LeO.none _|refine LeO.ite ?_ ?_|refine LeO.bind ?_ (λ_=>?_)):p:=h
theorem zm5 {p:Prop} (h:p:=by repeat' first|(with_reducible apply ih0)|(with_reducible apply ih1)|(with_reducible apply ih2)|(with_reducible apply aAy.mono)|(with_reducible apply aB0.mono)|(with_reducible apply aCc.mono)|(with_reducible apply aBt.mono)|(with_reducible apply aBb.mono)|(with_reducible exact LeO.refl _)|(with_reducible exact LeO.none _)|(with_reducible refine LeO.ite ?_ ?_)|(with_reducible refine LeO.bind ?_ (λ_=>?_))|apply ih0|apply ih1|apply ih2|apply aAy.mono|apply aB0.mono|apply aCc.mono|apply aBt.mono|apply aBb.mono|exact LeO.none _|refine LeO.ite ?_ ?_|refine LeO.bind ?_ (λ_=>?_)):p:=h
theorem zm6 {p:Prop} (h:p:=by repeat' first|(with_reducible apply ih0)|(with_reducible apply ih1)|(with_reducible apply ih2)|(with_reducible apply aBc.mono)|(with_reducible exact LeO.refl _)|(with_reducible exact LeO.none _)|(with_reducible refine LeO.ite ?_ ?_)|(with_reducible refine LeO.bind ?_ (λ_=>?_))|apply ih0|apply ih1|apply ih2|apply aBc.mono|exact LeO.none _|refine LeO.ite ?_ ?_|refine LeO.bind ?_ (λ_=>?_)):p:=h
theorem zm7 {p:Prop} (h:p:=by repeat' first|(with_reducible apply ih0)|(with_reducible apply ih1)|(with_reducible apply aAo.mono)|(with_reducible apply aAe.mono)|(with_reducible apply aCu.mono)|(with_reducible exact LeO.refl _)|(with_reducible exact LeO.none _)|(with_reducible refine LeO.ite ?_ ?_)|(with_reducible refine LeO.bind ?_ (λ_=>?_))|apply ih0|apply ih1|apply aAo.mono|apply aAe.mono|apply aCu.mono|exact LeO.none _|refine LeO.ite ?_ ?_|refine LeO.bind ?_ (λ_=>?_)):p:=h
theorem zm8 {p:Prop} (h:p:=by repeat' first|(with_reducible apply ih0)|(with_reducible apply ih1)|(with_reducible apply aB7.mono)|(with_reducible apply aAr.mono)|(with_reducible apply aD1.mono)|(with_reducible exact LeO.refl _)|(with_reducible exact LeO.none _)|(with_reducible refine LeO.ite ?_ ?_)|(with_reducible refine LeO.bind ?_ (λ_=>?_))|apply ih0|apply ih1|apply aB7.mono|apply aAr.mono|apply aD1.mono|exact LeO.none _|refine LeO.ite ?_ ?_|refine LeO.bind ?_ (λ_=>?_)):p:=h
theorem zm9 {p:Prop} (h:p:=by repeat' first|(with_reducible apply ih0)|(with_reducible apply ih1)|(with_reducible apply aE6.mono)|(with_reducible apply aAo.mono)|(with_reducible apply aCt.mono)|(with_reducible exact LeO.refl _)|(with_reducible exact LeO.none _)|(with_reducible refine LeO.ite ?_ ?_)|(with_reducible refine LeO.bind ?_ (λ_=>?_))|apply ih0|apply ih1|apply aE6.mono|apply aAo.mono|apply aCt.mono|exact LeO.none _|refine LeO.ite ?_ ?_|refine LeO.bind ?_ (λ_=>?_)):p:=h
theorem bGk {p:Prop} (h:p:=by repeat' first|(with_reducible apply ih0)|(with_reducible apply ih1)|(with_reducible apply aAb.mono)|(with_reducible apply aAy.mono)|(with_reducible exact LeO.refl _)|(with_reducible exact LeO.none _)|(with_reducible refine LeO.ite ?_ ?_)|(with_reducible refine LeO.bind ?_ (λ_=>?_))|apply ih0|apply ih1|apply aAb.mono|apply aAy.mono|exact LeO.none _|refine LeO.ite ?_ ?_|refine LeO.bind ?_ (λ_=>?_)):p:=h
theorem bGj {p:Prop} (h:p:=by repeat' first|(with_reducible apply ih0)|(with_reducible apply ih1)|(with_reducible apply aAo.mono)|(with_reducible exact LeO.refl _)|(with_reducible exact LeO.none _)|(with_reducible refine LeO.ite ?_ ?_)|(with_reducible refine LeO.bind ?_ (λ_=>?_))|apply ih0|apply ih1|apply aAo.mono|exact LeO.none _|refine LeO.ite ?_ ?_|refine LeO.bind ?_ (λ_=>?_)):p:=h
theorem bI3 {p:Prop} (h:p:=by repeat' first|(with_reducible apply ih0)|(with_reducible apply aBi.mono)|(with_reducible apply aC8.mono)|(with_reducible apply aB2.mono)|(with_reducible exact LeO.refl _)|(with_reducible exact LeO.none _)|(with_reducible refine LeO.ite ?_ ?_)|(with_reducible refine LeO.bind ?_ (λ_=>?_))|apply ih0|apply aBi.mono|apply aC8.mono|apply aB2.mono|exact LeO.none _|refine LeO.ite ?_ ?_|refine LeO.bind ?_ (λ_=>?_)):p:=h
theorem bI2 {p:Prop} (h:p:=by repeat' first|(with_reducible apply ih0)|(with_reducible apply aB9.mono)|(with_reducible apply aAh.mono)|(with_reducible exact LeO.refl _)|(with_reducible exact LeO.none _)|(with_reducible refine LeO.ite ?_ ?_)|(with_reducible refine LeO.bind ?_ (λ_=>?_))|apply ih0|apply aB9.mono|apply aAh.mono|exact LeO.none _|refine LeO.ite ?_ ?_|refine LeO.bind ?_ (λ_=>?_)):p:=h
theorem bI1 {p:Prop} (h:p:=by repeat' first|(with_reducible apply ih0)|(with_reducible apply aB7.mono)|(with_reducible exact LeO.refl _)|(with_reducible exact LeO.none _)|(with_reducible refine LeO.ite ?_ ?_)|(with_reducible refine LeO.bind ?_ (λ_=>?_))|apply ih0|apply aB7.mono|exact LeO.none _|refine LeO.ite ?_ ?_|refine LeO.bind ?_ (λ_=>?_)):p:=h
theorem bI0 {p:Prop} (h:p:=by repeat' first|(with_reducible apply ih0)|(with_reducible apply aAh.mono)|(with_reducible exact LeO.refl _)|(with_reducible exact LeO.none _)|(with_reducible refine LeO.ite ?_ ?_)|(with_reducible refine LeO.bind ?_ (λ_=>?_))|apply ih0|apply aAh.mono|exact LeO.none _|refine LeO.ite ?_ ?_|refine LeO.bind ?_ (λ_=>?_)):p:=h
theorem bHz {p:Prop} (h:p:=by repeat' first|(with_reducible apply ih0)|(with_reducible apply aBn.mono)|(with_reducible exact LeO.refl _)|(with_reducible exact LeO.none _)|(with_reducible refine LeO.ite ?_ ?_)|(with_reducible refine LeO.bind ?_ (λ_=>?_))|apply ih0|apply aBn.mono|exact LeO.none _|refine LeO.ite ?_ ?_|refine LeO.bind ?_ (λ_=>?_)):p:=h
theorem zz0 {p:Prop} (h:p:=by(with_reducible repeat(first|refine aA6 ?_ _|refine aA9 ?_|refine aA7 ?_ _));exact aA.out):p:=h
theorem zz1 {p:Prop} (h:p:=by repeat(first|(with_reducible first|exact HB.out|apply aB6|apply aAv|apply aB3|refine aAi ?_ aDe.out)|exact HB.out)):p:=h
theorem zz2 {p:Prop} (h:p:=by repeat(first|(with_reducible first|exact HB.out|apply aB6|apply aAv|apply aB3)|exact HB.out)):p:=h
theorem zz3 {p:Prop} (h:p:=by(try simp only[List.map_toArray,List.map_cons,List.map_nil]);first|done|rfl|(simp only[List.length_drop,List.length_take];rfl)):p:=h
theorem zz4 {p:Prop} (h:p:=by first|(with_reducible assumption)|assumption):p:=h
theorem zz5 {p:Prop} (h:p:=by first|rfl|(simp;done)|(simp[*];done)):p:=h
theorem zz6 {p:Prop} (h:p:=by(with_reducible repeat(first|refine aA6 ?_ _|refine aA9 ?_|refine aA7 ?_ _));exact aH.out):p:=h
theorem zz7 {p:Prop} (h:p:=by repeat(first|exact(Kd.aDj b7.out HB.out)|(with_reducible refine Kd.aCr ?_ _)|(with_reducible refine Kd.aCq ?_ _)|(with_reducible refine Kd.aDf ?_))):p:=h
theorem zz8 {p:Prop} (h:p:=by repeat(first|(with_reducible first|exact HK.out|apply aAm.aTp|apply aE8|apply aE9|apply aEi|refine aD9 ?_ aDt.out _|refine aD9 ?_ aG8.out _|refine aD9 ?_ aY4.out _)|exact HK.out)):p:=h
theorem zz9 {p:Prop} (h:p:=by first|rfl|(simp[aDd,aDc]<;>rfl)|(simp[*,aDd,aDc]<;>rfl)):p:=h
theorem aVr {p:Prop} (h:p:=by first|(refine aA8.aRw HI0.out ?_;(repeat(first|(with_reducible first|exact HI0.out|apply aAg.alloc|apply aAg.drewN|apply aAg.drew|apply aAg.set_1|apply aAg.set_2|refine aAg.far ?_ bF.out _|refine aAg.far ?_ bQ.out _|refine aAg.far ?_ b9.out _)|exact HI0.out));first|done|exact HI0.out)|(repeat(first|(with_reducible first|exact HI0.out|apply aAg.alloc|apply aAg.drewN|apply aAg.drew|apply aAg.set_1|apply aAg.set_2|refine aAg.far ?_ bF.out _|refine aAg.far ?_ bQ.out _|refine aAg.far ?_ b9.out _)|exact HI0.out))):p:=h
theorem aH3 {p:Prop} (h:p:=by repeat(first|(with_reducible first|exact HB.out|apply aB6|apply aAv|apply aB3|refine aAi ?_ aDe.out|refine aAi ?_ aQc.out)|exact HB.out)):p:=h
theorem aGe {p:Prop} (h:p:=by(with_reducible repeat(first|refine aA6 ?_ _|refine aA9 ?_|refine aA7 ?_ _));exact a7.out):p:=h
theorem aVq {p:Prop} (h:p:=by(with_reducible repeat(first|refine aA6 ?_ _|refine aA9 ?_|refine aA7 ?_ _));refine aCy (cs:=#[.int .i64 ((aA2 aC a8).f0),.int .i64 0]) ?_ 1 _ rfl;(with_reducible repeat(first|refine aA6 ?_ _|refine aA9 ?_|refine aA7 ?_ _));refine aCy (cs:=#[.int .i64 0,.int .i64 0]) ?_ 0 _ rfl;(with_reducible repeat(first|refine aA6 ?_ _|refine aA9 ?_|refine aA7 ?_ _));exact cG.out):p:=h
theorem aPa {p:Prop} (h:p:=by repeat(first|(with_reducible first|exact HK.out|apply aAm.aTp|apply aE8|apply aE9|apply aEi|refine aD9 ?_ aDt.out _|refine aD9 ?_ aG8.out _|refine aD9 ?_ aY4.out _|refine aD9 ?_ aI6.out _)|exact HK.out)):p:=h
theorem aM7 {p:Prop} (h:p:=by repeat(first|(with_reducible first|exact HB.out|apply aB6|apply aAv|apply aB3|refine aAi ?_ aDe.out|refine aAi ?_ aEv.out|refine aAi ?_ aQc.out|refine aAi ?_ bFg.out)|exact HB.out)):p:=h
theorem aHc {p:Prop} (h:p:=by repeat(first|(with_reducible first|exact HB.out|apply aB6|apply aAv|apply aB3|refine aAi ?_ aVm.out)|exact HB.out)):p:=h
theorem aMw {p:Prop} (h:p:=by repeat(first|(with_reducible first|exact HB.out|apply aB6|apply aAv|apply aB3|refine aAi ?_ aDe.out|refine aAi ?_ aEv.out|refine aAi ?_ aQc.out|refine aAi ?_ bFg.out|refine aAi ?_ aP6.out)|exact HB.out)):p:=h
theorem aKa {p:Prop} (h:p:=by(with_reducible repeat(first|refine aA6 ?_ _|refine aA9 ?_|refine aA7 ?_ _));exact aI.out):p:=h
theorem aVp {p:Prop} (h:p:=by(with_reducible repeat(first|refine aA6 ?_ _|refine aA9 ?_|refine aA7 ?_ _));refine aCb ?_ eZ.out _;(with_reducible repeat(first|refine aA6 ?_ _|refine aA9 ?_|refine aA7 ?_ _));refine aCb ?_ eZ.out _;(with_reducible repeat(first|refine aA6 ?_ _|refine aA9 ?_|refine aA7 ?_ _));exact aI.out):p:=h
theorem aDq {p:Prop} (h:p:=by first|(go_simp;done)|(go_simp;rfl)):p:=h
theorem aE1 {p:Prop} (h:p:=by rw[hg];exact(aAj zz2)):p:=h
theorem aNs {p:Prop} (h:p:=by repeat(first|(with_reducible first|exact HB.out|apply aB6|apply aAv|apply aB3|refine aAi ?_ aDe.out|refine aAi ?_ aK7.out)|exact HB.out)):p:=h
theorem aHt {p:Prop} (h:p:=by(with_reducible repeat(first|apply Kd.aAu|apply Kd.aAt|apply Kd.aB5));exact aJ.out):p:=h
theorem aI7 {p:Prop} (h:p:=by(with_reducible repeat(first|apply Kd.aAu|apply Kd.aAt|apply Kd.aB5));exact aV.out):p:=h
theorem aVo {p:Prop} (h:p:=by repeat(first|(with_reducible first|exact HB.out|apply aB6|apply aAv|apply aB3|refine aAi ?_ (aAg.ge HI0.out)|refine aAi ?_ aDe.out|refine aAi ?_ aEv.out|refine aAi ?_ aSt.out|refine aAi ?_ aHa.out)|exact HB.out)):p:=h
theorem aKp {p:Prop} (h:p:=by repeat(first|(with_reducible first|exact HB.out|apply aB6|apply aAv|apply aB3|refine aAi ?_ (aAg.ge HI0.out)|refine aAi ?_ aDe.out|refine aAi ?_ aEv.out|refine aAi ?_ aSt.out)|exact HB.out)):p:=h
theorem aP9 {p:Prop} (h:p:=by repeat(first|exact(Kd.aDj HR1.out HB.out)|(with_reducible refine Kd.aCr ?_ _)|(with_reducible refine Kd.aCq ?_ _)|(with_reducible refine Kd.aDf ?_))):p:=h
theorem aZi {p:Prop} (h:p:=by(with_reducible repeat(first|refine aA6 ?_ _|refine aA9 ?_|refine aA7 ?_ _));refine aCb ?_ cD.out _;(with_reducible repeat(first|refine aA6 ?_ _|refine aA9 ?_|refine aA7 ?_ _));refine aCb ?_ cD.out _;(with_reducible repeat(first|refine aA6 ?_ _|refine aA9 ?_|refine aA7 ?_ _));exact aA.out):p:=h
theorem aW3 {p:Prop} (h:p:=by(with_reducible repeat(first|refine aA6 ?_ _|refine aA9 ?_|refine aA7 ?_ _));refine aCb ?_ cU.out _;(with_reducible repeat(first|refine aA6 ?_ _|refine aA9 ?_|refine aA7 ?_ _));refine aCb ?_ cU.out _;(with_reducible repeat(first|refine aA6 ?_ _|refine aA9 ?_|refine aA7 ?_ _));exact aA.out):p:=h
theorem aNr {p:Prop} (h:p:=by repeat(first|(with_reducible first|exact HK.out|apply aAm.aTp|apply aE8|apply aE9|apply aEi|refine aD9 ?_ aDt.out _)|exact HK.out)):p:=h
theorem bFv {p:Prop} (h:p:=by first|(refine aA8.aRw HI0.out ?_;(repeat(first|(with_reducible first|exact HI0.out|apply aAg.alloc|apply aAg.drewN|apply aAg.drew|apply aAg.set_1|apply aAg.set_2|refine aAg.far ?_ bF.out _|refine aAg.far ?_ bQ.out _|refine aAg.far ?_ b9.out _|refine aAg.far ?_ dD.out _)|exact HI0.out));first|done|exact HI0.out)|(repeat(first|(with_reducible first|exact HI0.out|apply aAg.alloc|apply aAg.drewN|apply aAg.drew|apply aAg.set_1|apply aAg.set_2|refine aAg.far ?_ bF.out _|refine aAg.far ?_ bQ.out _|refine aAg.far ?_ b9.out _|refine aAg.far ?_ dD.out _)|exact HI0.out))):p:=h
theorem aLw {p:Prop} (h:p:=by repeat(first|(with_reducible first|exact HK.out|apply aAm.aTp|apply aE8|apply aE9|apply aEi)|exact HK.out)):p:=h
theorem bC9 {p:Prop} (h:p:=by(with_reducible repeat(first|refine aA6 ?_ _|refine aA9 ?_|refine aA7 ?_ _));refine aCb ?_ d6.out _;(with_reducible repeat(first|refine aA6 ?_ _|refine aA9 ?_|refine aA7 ?_ _));refine aCb ?_ d6.out _;(with_reducible repeat(first|refine aA6 ?_ _|refine aA9 ?_|refine aA7 ?_ _));exact aA.out):p:=h
theorem bC8 {p:Prop} (h:p:=by(with_reducible repeat(first|refine aA6 ?_ _|refine aA9 ?_|refine aA7 ?_ _));refine aCb ?_ d5.out _;(with_reducible repeat(first|refine aA6 ?_ _|refine aA9 ?_|refine aA7 ?_ _));refine aCb ?_ d5.out _;(with_reducible repeat(first|refine aA6 ?_ _|refine aA9 ?_|refine aA7 ?_ _));exact aH.out):p:=h
theorem aYd {p:Prop} (h:p:=by repeat(first|(with_reducible first|exact HI0.out|apply aAg.alloc|apply aAg.drewN|apply aAg.drew|apply aAg.set_1|apply aAg.set_2|refine aAg.far ?_ bF.out _|refine aAg.far ?_ bQ.out _|refine aAg.far ?_ b9.out _)|exact HI0.out)):p:=h
theorem bCr {p:Prop} (h:p:=by(with_reducible repeat(first|refine aA6 ?_ _|refine aA9 ?_|refine aA7 ?_ _));refine aCy (cs:=#[.int .i64 ((aA2 aC aT).f0),.int .i64 0]) ?_ 1 _ rfl;(with_reducible repeat(first|refine aA6 ?_ _|refine aA9 ?_|refine aA7 ?_ _));refine aCy (cs:=#[.int .i64 0,.int .i64 0]) ?_ 0 _ rfl;(with_reducible repeat(first|refine aA6 ?_ _|refine aA9 ?_|refine aA7 ?_ _));exact bK.out):p:=h
theorem aFb {p:Prop} (h:p:=by rw[hg];exact(aAj zz1)):p:=h
theorem aYc {p:Prop} (h:p:=by(with_reducible repeat(first|refine aA6 ?_ _|refine aA9 ?_|refine aA7 ?_ _));exact bB.out):p:=h
theorem bC7 {p:Prop} (h:p:=by repeat(first|(with_reducible first|exact HI0.out|apply aAg.alloc|apply aAg.drewN|apply aAg.drew|apply aAg.set_1|apply aAg.set_2|refine aAg.far ?_ bF.out _|refine aAg.far ?_ bQ.out _|refine aAg.far ?_ b9.out _|refine aAg.far ?_ dD.out _)|exact HI0.out)):p:=h
theorem bCq {p:Prop} (h:p:=by(with_reducible repeat(first|refine aA6 ?_ _|refine aA9 ?_|refine aA7 ?_ _));refine aCb ?_ eY.out _;(with_reducible repeat(first|refine aA6 ?_ _|refine aA9 ?_|refine aA7 ?_ _));refine aCb ?_ eY.out _;(with_reducible repeat(first|refine aA6 ?_ _|refine aA9 ?_|refine aA7 ?_ _));exact bB.out):p:=h
theorem bCp {p:Prop} (h:p:=by(with_reducible repeat(first|apply Kd.aAu|apply Kd.aAt|apply Kd.aB5));exact Kd.aBh (Kd.aDx (p:=⟨bH,1,none⟩) (Kd.aDx (p:=⟨bH,0,none⟩) (Kd.aBh bA.out (λk_ hk=>(⟨hk,hk.2⟩:_/\k_≠bH))) (λ_ hk=>hk.2) (.int .i64 ((aA2 aC a8).f0))) (λ_ hk=>hk.2) (.int .i64 ((aA2 aC a8).f1))) (λ_ hk=>⟨hk.1.1,hk.1.2⟩)):p:=h
theorem aT0 {p:Prop} (h:p:=by repeat(first|(with_reducible first|exact HB.out|apply aB6|apply aAv|apply aB3|refine aAi ?_ aDe.out|refine aAi ?_ aK8.out)|exact HB.out)):p:=h
theorem aK9 {p:Prop} (h:p:=by(with_reducible repeat(first|apply Kd.aAu|apply Kd.aAt|apply Kd.aB5));exact bV.out):p:=h
theorem aSw {p:Prop} (h:p:=by rw[hg];exact Nat.ne_of_lt (aCi (g:=aD) (o:=.cells #[.int .i64 aE,.slice (some bW) aC.length aG] 25 (0,0)) zz0)):p:=h
theorem aSv {p:Prop} (h:p:=by rw[hg];exact Nat.ne_of_gt (aCi (g:=aD) (o:=.cells #[.int .i64 aE,.slice (some bW) aC.length aG] 25 (0,0)) zz0)):p:=h
theorem aYb {p:Prop} (h:p:=by repeat(first|(with_reducible first|exact HK.out|apply aAm.aTp|apply aE8|apply aE9|apply aEi|refine aD9 ?_ aDt.out _|refine aD9 ?_ aG8.out _)|exact HK.out)):p:=h
theorem aPh {p:Prop} (h:p:=by(with_reducible repeat(first|apply Kd.aAu|apply Kd.aAt|apply Kd.aB5));exact dF.out):p:=h
theorem aP8 {p:Prop} (h:p:=by repeat(first|(with_reducible first|exact HB.out|apply aB6|apply aAv|apply aB3|refine aAi ?_ aDe.out|refine aAi ?_ aEv.out)|exact HB.out)):p:=h
theorem aSu {p:Prop} (h:p:=by(with_reducible repeat(first|refine aA6 ?_ _|refine aA9 ?_|refine aA7 ?_ _));exact dV.out):p:=h
theorem aLv {p:Prop} (h:p:=by(with_reducible repeat(first|refine aA6 ?_ _|refine aA9 ?_|refine aA7 ?_ _));exact bD.out):p:=h
theorem aYa {p:Prop} (h:p:=by repeat(first|exact(Kd.aAc cF.out).2.2|(with_reducible refine Kd.aCr ?_ _)|(with_reducible refine Kd.aCq ?_ _)|(with_reducible refine Kd.aDf ?_))):p:=h
theorem aW2 {p:Prop} (h:p:=by first|exact Kd.aSr _ _ _ _ _|exact Kd.bFc _ _ _ _ _|exact Kd.bF0 _ _ _ _ _|exact Kd.bFb _ _ _ _ _|exact Kd.aNm _ _ _ _ _):p:=h
theorem bFu {p:Prop} (h:p:=by rw[hg];exact Nat.ne_of_lt (aAg.lt (show aAg w0 _ g s0_0 kE kY from by repeat(first|(with_reducible first|exact HI0.out|apply aAg.alloc|apply aAg.drewN|apply aAg.drew|apply aAg.set_1|apply aAg.set_2|refine aAg.far ?_ bF.out _|refine aAg.far ?_ bQ.out _|refine aAg.far ?_ b9.out _)|exact HI0.out)))):p:=h
theorem bFt {p:Prop} (h:p:=by rw[hg];exact Nat.ne_of_gt (aAg.lt (show aAg w0 _ g s0_0 kE kY from by repeat(first|(with_reducible first|exact HI0.out|apply aAg.alloc|apply aAg.drewN|apply aAg.drew|apply aAg.set_1|apply aAg.set_2|refine aAg.far ?_ bF.out _|refine aAg.far ?_ bQ.out _|refine aAg.far ?_ b9.out _)|exact HI0.out)))):p:=h
theorem aW1 {p:Prop} (h:p:=by rw[hg];exact Nat.ne_of_lt (aCi (g:=aD) (o:=.cells #[.int .i64 aE,.slice (some d8) aC.length aG] 25 (0,0)) zz0)):p:=h
theorem aW0 {p:Prop} (h:p:=by rw[hg];exact Nat.ne_of_gt (aCi (g:=aD) (o:=.cells #[.int .i64 aE,.slice (some d8) aC.length aG] 25 (0,0)) zz0)):p:=h
theorem aVz {p:Prop} (h:p:=by repeat(first|(with_reducible first|exact HK.out|apply Kept.alloc|apply Kept.drewN|apply Kept.drew|refine Kept.setCell ?_ (.inr aDt.out) _|refine Kept.setCell ?_ (.inr aK6.out) _)|exact HK.out)):p:=h
theorem aMv {p:Prop} (h:p:=by(with_reducible repeat(first|apply Kd.aAu|apply Kd.aAt|apply Kd.aB5));exact cQ.out):p:=h
theorem aZh {p:Prop} (h:p:=by(with_reducible repeat(first|refine aA6 ?_ _|refine aA9 ?_|refine aA7 ?_ _));refine aCb ?_ fB.out _;(with_reducible repeat(first|refine aA6 ?_ _|refine aA9 ?_|refine aA7 ?_ _));exact aA.out):p:=h
theorem aZg {p:Prop} (h:p:=by(with_reducible repeat(first|refine aA6 ?_ _|refine aA9 ?_|refine aA7 ?_ _));refine aCb ?_ eH.out _;(with_reducible repeat(first|refine aA6 ?_ _|refine aA9 ?_|refine aA7 ?_ _));exact aH.out):p:=h
theorem aVy {p:Prop} (h:p:=by(with_reducible repeat(first|refine aA6 ?_ _|refine aA9 ?_|refine aA7 ?_ _));refine aCb ?_ fA.out _;(with_reducible repeat(first|refine aA6 ?_ _|refine aA9 ?_|refine aA7 ?_ _));exact aI.out):p:=h
theorem aY9 {p:Prop} (h:p:=by repeat(first|exact HR0.out|(with_reducible refine Kd.aCr ?_ _)|(with_reducible refine Kd.aCq ?_ _)|(with_reducible refine Kd.aDf ?_))):p:=h
theorem aZf {p:Prop} (h:p:=by repeat(first|exact(Kd.aAc cQ.out).2.2|(with_reducible refine Kd.aCr ?_ _)|(with_reducible refine Kd.aCq ?_ _)|(with_reducible refine Kd.aDf ?_))):p:=h
theorem aZe {p:Prop} (h:p:=by(with_reducible repeat(first|apply Kd.aAu|apply Kd.aAt|apply Kd.aB5));exact Kd.aBh uP.out (λ_ hk=>⟨hk.1.1.1.2,⟨hk.1.1.2,hk.1.2⟩⟩)):p:=h
theorem aZd {p:Prop} (h:p:=by(with_reducible repeat(first|apply Kd.aAu|apply Kd.aAt|apply Kd.aB5));exact Kd.aBh gD.out (λ_ hk=>⟨hk.1.1.1.2,⟨hk.1.1.2,hk.2⟩⟩)):p:=h
theorem aZc {p:Prop} (h:p:=by(with_reducible repeat(first|apply Kd.aAu|apply Kd.aAt|apply Kd.aB5));exact Kd.aBh cF.out (λ_ hk=>⟨hk.1.1.1.2,⟨hk.1.1.2,hk.2⟩⟩)):p:=h
theorem aZb {p:Prop} (h:p:=by(with_reducible repeat(first|apply Kd.aAu|apply Kd.aAt|apply Kd.aB5));exact Kd.aBh iB.out (λ_ hk=>⟨hk.1.1.1.2,⟨hk.1.1.2,hk.2⟩⟩)):p:=h
theorem aVn {p:Prop} (h:p:=by(with_reducible repeat(first|apply Kd.aAu|apply Kd.aAt|apply Kd.aB5));exact lC.out):p:=h
theorem bGh {p:Prop} (h:p:=by(with_reducible repeat(first|refine aA6 ?_ _|refine aA9 ?_|refine aA7 ?_ _));refine aCy (cs:=#[.int .i64 dN,.int .i64 0]) ?_ 1 _ rfl;(with_reducible repeat(first|refine aA6 ?_ _|refine aA9 ?_|refine aA7 ?_ _));refine aCy (cs:=#[.int .i64 0,.int .i64 0]) ?_ 0 _ rfl;(with_reducible repeat(first|refine aA6 ?_ _|refine aA9 ?_|refine aA7 ?_ _));exact aI.out):p:=h
theorem aVx {p:Prop} (h:p:=by rw[hg];exact Nat.ne_of_lt (aCi (g:=aD) (o:=.cells #[.int .i64 0,.slice none 0 0] 25 (0,0)) zz0)):p:=h
theorem aVw {p:Prop} (h:p:=by rw[hg];exact Nat.ne_of_gt (aCi (g:=aD) (o:=.cells #[.int .i64 0,.slice none 0 0] 25 (0,0)) zz0)):p:=h
theorem aPg {p:Prop} (h:p:=by repeat(first|(with_reducible first|exact HB.out|apply aB6|apply aAv|apply aB3|refine aAi ?_ (aAg.ge HI0.out))|exact HB.out)):p:=h
theorem aQf {p:Prop} (h:p:=by repeat(first|(with_reducible first|exact HI0.out|apply aAg.alloc|apply aAg.drewN|apply aAg.drew|apply aAg.set_1|apply aAg.set_2)|exact HI0.out)):p:=h
theorem aVv {p:Prop} (h:p:=by(with_reducible repeat(first|apply Kd.aAu|apply Kd.aAt|apply Kd.aB5));exact cF.out):p:=h
theorem aVu {p:Prop} (h:p:=by(with_reducible repeat(first|apply Kd.aAu|apply Kd.aAt|apply Kd.aB5));exact i6.out):p:=h
theorem aVt {p:Prop} (h:p:=by(with_reducible repeat(first|apply Kd.aAu|apply Kd.aAt|apply Kd.aB5));exact nA.out):p:=h
theorem aVs {p:Prop} (h:p:=by(with_reducible repeat(first|apply Kd.aAu|apply Kd.aAt|apply Kd.aB5));exact m3.out):p:=h
theorem bC6 {p:Prop} (h:p:=by repeat(first|exact(Kd.aAc aV.out).2.2|(with_reducible refine Kd.aCr ?_ _)|(with_reducible refine Kd.aCq ?_ _)|(with_reducible refine Kd.aDf ?_))):p:=h
theorem bC5 {p:Prop} (h:p:=by repeat(first|exact(Kd.aAc b4.out).2.2|(with_reducible refine Kd.aCr ?_ _)|(with_reducible refine Kd.aCq ?_ _)|(with_reducible refine Kd.aDf ?_))):p:=h
theorem bC4 {p:Prop} (h:p:=by repeat(first|exact(Kd.aAc bV.out).2.2|(with_reducible refine Kd.aCr ?_ _)|(with_reducible refine Kd.aCq ?_ _)|(with_reducible refine Kd.aDf ?_))):p:=h
theorem bCo {p:Prop} (h:p:=by(with_reducible repeat(first|refine aA6 ?_ _|refine aA9 ?_|refine aA7 ?_ _));refine aCb ?_ cN.out _;(with_reducible repeat(first|refine aA6 ?_ _|refine aA9 ?_|refine aA7 ?_ _));refine aCb ?_ cN.out _;(with_reducible repeat(first|refine aA6 ?_ _|refine aA9 ?_|refine aA7 ?_ _));exact aA.out):p:=h
theorem bGg {p:Prop} (h:p:=by(with_reducible repeat(first|refine aA6 ?_ _|refine aA9 ?_|refine aA7 ?_ _));refine aCb ?_ f8.out _;(with_reducible repeat(first|refine aA6 ?_ _|refine aA9 ?_|refine aA7 ?_ _));refine aCb ?_ f8.out _;(with_reducible repeat(first|refine aA6 ?_ _|refine aA9 ?_|refine aA7 ?_ _));exact aH.out):p:=h
theorem bGf {p:Prop} (h:p:=by(with_reducible repeat(first|refine aA6 ?_ _|refine aA9 ?_|refine aA7 ?_ _));refine aCb ?_ eI.out _;(with_reducible repeat(first|refine aA6 ?_ _|refine aA9 ?_|refine aA7 ?_ _));refine aCb ?_ eI.out _;(with_reducible repeat(first|refine aA6 ?_ _|refine aA9 ?_|refine aA7 ?_ _));exact aA.out):p:=h
theorem bFs {p:Prop} (h:p:=by(with_reducible repeat(first|refine aA6 ?_ _|refine aA9 ?_|refine aA7 ?_ _));refine aCb ?_ fG.out _;(with_reducible repeat(first|refine aA6 ?_ _|refine aA9 ?_|refine aA7 ?_ _));exact cG.out):p:=h
theorem aY8 {p:Prop} (h:p:=by(with_reducible repeat(first|apply Kd.aAu|apply Kd.aAt|apply Kd.aB5));exact b4.out):p:=h
theorem aY7 {p:Prop} (h:p:=by(with_reducible repeat(first|apply Kd.aAu|apply Kd.aAt|apply Kd.aB5));exact gD.out):p:=h
theorem bC3 {p:Prop} (h:p:=by(with_reducible repeat(first|apply Kd.aAu|apply Kd.aAt|apply Kd.aB5));exact Kd.aBh aJ.out (λ_ hk=>⟨hk.2,hk.1⟩)):p:=h
theorem bC2 {p:Prop} (h:p:=by(with_reducible repeat(first|apply Kd.aAu|apply Kd.aAt|apply Kd.aB5));exact Kd.aBh aV.out (λ_ hk=>⟨hk.2,hk.1⟩)):p:=h
theorem bC1 {p:Prop} (h:p:=by(with_reducible repeat(first|apply Kd.aAu|apply Kd.aAt|apply Kd.aB5));exact Kd.aBh gS.out (λ_ hk=>⟨hk.1.2,hk.2⟩)):p:=h
theorem bGe {p:Prop} (h:p:=by(with_reducible repeat(first|apply Kd.aAu|apply Kd.aAt|apply Kd.aB5));exact(Kd.aBh (Kd.aDx (p:=⟨bG,1,none⟩) (Kd.aDx (p:=⟨bG,0,none⟩) (Kd.aDp bV.out aI.out (by decide)) (λ_ hk=>hk.2) (.int .i64 ((aA2 aC aZ).f0))) (λ_ hk=>hk.2) (.int .i64 ((aA2 aC aZ).f1))) (λ_ h_=>h_.1))):p:=h
theorem bC0 {p:Prop} (h:p:=by repeat(first|(with_reducible first|exact HBW.out|apply aB6|apply aAv|apply aB3)|exact HBW.out)):p:=h
theorem aZa {p:Prop} (h:p:=by rw[hg];exact Nat.ne_of_lt (aCi (g:=aW) (o:=.cells #[.int .i64 bI,aCa] 25 (0,0)) zz6)):p:=h
theorem aZ9 {p:Prop} (h:p:=by rw[hg];exact Nat.ne_of_gt (aCi (g:=aW) (o:=.cells #[.int .i64 bI,aCa] 25 (0,0)) zz6)):p:=h
theorem bCn {p:Prop} (h:p:=by repeat(first|exact(Kd.aAc iB.out).2.2|(with_reducible refine Kd.aCr ?_ _)|(with_reducible refine Kd.aCq ?_ _)|(with_reducible refine Kd.aDf ?_))):p:=h
theorem aZ8 {p:Prop} (h:p:=by(with_reducible repeat(first|apply Kd.aAu|apply Kd.aAt|apply Kd.aB5));exact lD.out):p:=h
theorem aSz {p:Prop} (h:p:=by repeat(first|(with_reducible first|exact HB.out|apply aB6|apply aAv|apply aB3|refine aAi ?_ (aAg.ge HI0.out)|refine aAi ?_ aDe.out)|exact HB.out)):p:=h
theorem aZ7 {p:Prop} (h:p:=by repeat(first|(with_reducible first|exact HI0.out|apply aAg.alloc|apply aAg.drewN|apply aAg.drew|apply aAg.set_1|apply aAg.set_2|refine aAg.far ?_ bF.out _)|exact HI0.out)):p:=h
theorem bHy {p:Prop} (h:p:=by first|(refine aA8.aRw HI0.out ?_;(repeat(first|(with_reducible first|exact HI0.out|apply aAg.alloc|apply aAg.drewN|apply aAg.drew|apply aAg.set_1|apply aAg.set_2|refine aAg.far ?_ bF.out _|refine aAg.far ?_ bQ.out _)|exact HI0.out));first|done|exact HI0.out)|(repeat(first|(with_reducible first|exact HI0.out|apply aAg.alloc|apply aAg.drewN|apply aAg.drew|apply aAg.set_1|apply aAg.set_2|refine aAg.far ?_ bF.out _|refine aAg.far ?_ bQ.out _)|exact HI0.out))):p:=h
theorem bCm {p:Prop} (h:p:=by(with_reducible repeat(first|refine aA6 ?_ _|refine aA9 ?_|refine aA7 ?_ _));refine aCy (cs:=#[.int .i64 aE,aE4]) ?_ 1 _ rfl;(with_reducible repeat(first|refine aA6 ?_ _|refine aA9 ?_|refine aA7 ?_ _));exact bB.out):p:=h
theorem aRr {p:Prop} (h:p:=by rw[hg];exact Nat.ne_of_lt (aCi (g:=aW) (o:=.cells #[.int .i64 0,.slice none 0 0] 25 (0,0)) zz6)):p:=h
theorem aRq {p:Prop} (h:p:=by rw[hg];exact Nat.ne_of_gt (aCi (g:=aW) (o:=.cells #[.int .i64 0,.slice none 0 0] 25 (0,0)) zz6)):p:=h
theorem aFc {p:Prop} (h:p:=by have:=HK1.out;omega):p:=h
theorem aRp {p:Prop} (h:p:=by(with_reducible repeat(first|apply Kd.aAu|apply Kd.aAt|apply Kd.aB5));exact bA.out):p:=h
theorem aTc {p:Prop} (h:p:=by rw[hg];exact Nat.ne_of_lt (aCi (g:=aD) (o:=.cells #[.int .i64 aE,.slice (some gO) aC.length aG] 25 (0,0)) zz0)):p:=h
theorem aTb {p:Prop} (h:p:=by rw[hg];exact Nat.ne_of_gt (aCi (g:=aD) (o:=.cells #[.int .i64 aE,.slice (some gO) aC.length aG] 25 (0,0)) zz0)):p:=h
theorem aZt {p:Prop} (h:p:=by rw[hg];exact(by first|exact HK.out.1|exact(show Kept w _ (λk_=>P1_ k_) from by repeat(first|(with_reducible first|exact HK.out|apply Kept.alloc|apply Kept.drewN|apply Kept.drew|refine Kept.setCell ?_ (.inr aDt.out) _)|exact HK.out)).1)):p:=h
theorem aZs {p:Prop} (h:p:=by rw[hg];exact Nat.ne_of_lt (aAg.lt (show aAg w0 _ g s0_0 s0_1 s0_2 from by repeat(first|(with_reducible first|exact HI0.out|apply aAg.alloc|apply aAg.drewN|apply aAg.drew|apply aAg.set_1|apply aAg.set_2)|exact HI0.out)))):p:=h
theorem aZr {p:Prop} (h:p:=by rw[hg];exact Nat.ne_of_gt (aAg.lt (show aAg w0 _ g s0_0 s0_1 s0_2 from by repeat(first|(with_reducible first|exact HI0.out|apply aAg.alloc|apply aAg.drewN|apply aAg.drew|apply aAg.set_1|apply aAg.set_2)|exact HI0.out)))):p:=h
theorem bCz {p:Prop} (h:p:=by rw[hw];exact(by(with_reducible repeat(first|refine aA6 ?_ _|refine aA9 ?_|refine aA7 ?_ _));refine aCy (cs:=#[.int .i64 ((aA2 aC bM).f0),.int .i64 0]) ?_ 1 _ rfl;(with_reducible repeat(first|refine aA6 ?_ _|refine aA9 ?_|refine aA7 ?_ _));refine aCy (cs:=#[.int .i64 0,.int .i64 0]) ?_ 0 _ rfl;(with_reducible repeat(first|refine aA6 ?_ _|refine aA9 ?_|refine aA7 ?_ _));exact bR.out)):p:=h
theorem aW7 {p:Prop} (h:p:=by repeat(first|(with_reducible first|exact HB.out|apply aB6|apply aAv|apply aB3|refine aAi ?_ aEv.out)|exact HB.out)):p:=h
theorem aW6 {p:Prop} (h:p:=by repeat(first|exact(Kd.aDj HR0.out HB.out)|(with_reducible refine Kd.aCr ?_ _)|(with_reducible refine Kd.aCq ?_ _)|(with_reducible refine Kd.aDf ?_))):p:=h
theorem aW5 {p:Prop} (h:p:=by repeat(first|exact(Kd.aAc i7.out).2.2|(with_reducible refine Kd.aCr ?_ _)|(with_reducible refine Kd.aCq ?_ _)|(with_reducible refine Kd.aDf ?_))):p:=h
theorem bCy {p:Prop} (h:p:=by(with_reducible repeat(first|refine aA6 ?_ _|refine aA9 ?_|refine aA7 ?_ _));refine aCy (cs:=#[.int .i64 ((aA2 aC aZ).f0),.int .i64 0]) ?_ 1 _ rfl;(with_reducible repeat(first|refine aA6 ?_ _|refine aA9 ?_|refine aA7 ?_ _));refine aCy (cs:=#[.int .i64 0,.int .i64 0]) ?_ 0 _ rfl;(with_reducible repeat(first|refine aA6 ?_ _|refine aA9 ?_|refine aA7 ?_ _));exact aI.out):p:=h
theorem aZq {p:Prop} (h:p:=by repeat(first|(with_reducible first|exact HB.out|apply aB6|apply aAv|apply aB3|refine aAi ?_ aDe.out|refine aAi ?_ aEv.out|refine aAi ?_ aQc.out)|exact HB.out)):p:=h
theorem aTa {p:Prop} (h:p:=by rw[hg];exact Nat.ne_of_lt (aCi (g:=bG) (o:=.cells #[.int .i64 dN,.int .i64 dX] 73 (0,0)) aKa)):p:=h
theorem aT9 {p:Prop} (h:p:=by rw[hg];exact Nat.ne_of_gt (aCi (g:=bG) (o:=.cells #[.int .i64 dN,.int .i64 dX] 73 (0,0)) aKa)):p:=h
theorem bCx {p:Prop} (h:p:=by(with_reducible repeat(first|refine aA6 ?_ _|refine aA9 ?_|refine aA7 ?_ _));refine aCy (cs:=#[.int .i64 b3,.int .i64 0]) ?_ 1 _ rfl;(with_reducible repeat(first|refine aA6 ?_ _|refine aA9 ?_|refine aA7 ?_ _));refine aCy (cs:=#[.int .i64 0,.int .i64 0]) ?_ 0 _ rfl;(with_reducible repeat(first|refine aA6 ?_ _|refine aA9 ?_|refine aA7 ?_ _));exact cG.out):p:=h
theorem aZp {p:Prop} (h:p:=by(try simp only[eO]);(try simp only[fJ]);(try simp only[fN]);(try simp only[fM]);(with_reducible repeat(first|refine aA6 ?_ _|refine aA9 ?_|refine aA7 ?_ _));exact aA.out):p:=h
theorem aT8 {p:Prop} (h:p:=by rw[hg];exact Nat.ne_of_lt (aCi (g:=dE) (o:=.cells #[.int .i64 aE,aE4] 25 (0,0)) aYc)):p:=h
theorem aT7 {p:Prop} (h:p:=by rw[hg];exact Nat.ne_of_gt (aCi (g:=dE) (o:=.cells #[.int .i64 aE,aE4] 25 (0,0)) aYc)):p:=h
theorem aT6 {p:Prop} (h:p:=by(with_reducible repeat(first|apply Kd.aAu|apply Kd.aAt|apply Kd.aB5));exact m5.out):p:=h
theorem aT5 {p:Prop} (h:p:=by(with_reducible repeat(first|apply Kd.aAu|apply Kd.aAt|apply Kd.aB5));exact kB.out):p:=h
theorem aT4 {p:Prop} (h:p:=by(with_reducible repeat(first|apply Kd.aAu|apply Kd.aAt|apply Kd.aB5));exact kA.out):p:=h
theorem aT3 {p:Prop} (h:p:=by(with_reducible repeat(first|apply Kd.aAu|apply Kd.aAt|apply Kd.aB5));exact j9.out):p:=h
theorem aZo {p:Prop} (h:p:=by repeat(first|(with_reducible first|exact HB.out|apply aB6|apply aAv|apply aB3|refine aAi ?_ (aAg.ge aJt.out)|refine aAi ?_ aDe.out)|exact HB.out)):p:=h
theorem aT2 {p:Prop} (h:p:=by(with_reducible repeat(first|apply Kd.aAu|apply Kd.aAt|apply Kd.aB5));exact dS.out):p:=h
theorem aT1 {p:Prop} (h:p:=by(with_reducible repeat(first|apply Kd.aAu|apply Kd.aAt|apply Kd.aB5));exact d3.out):p:=h
theorem aZn {p:Prop} (h:p:=by repeat(first|(with_reducible first|exact HB.out|apply aB6|apply aAv|apply aB3|refine aAi ?_ aDe.out|refine aAi ?_ aVm.out)|exact HB.out)):p:=h
theorem aKq {p:Prop} (h:p:=by have:=HJ3.out;have:=HK2.out;omega):p:=h
theorem bCw {p:Prop} (h:p:=by rw[hw];exact(by(with_reducible repeat(first|apply Kd.aAu|apply Kd.aAt|apply Kd.aB5));exact Kd.aBh (Kd.aDx (p:=⟨b6,1,none⟩) (Kd.aDx (p:=⟨b6,0,none⟩) (Kd.aDp dH.out bR.out (by decide)) (λ_ hk=>hk.2) (.int .i64 ((aA2 aC bM).f0))) (λ_ hk=>hk.2) (.int .i64 ((aA2 aC bM).f1))) (λ_ hk=>hk.1))):p:=h
theorem bCv {p:Prop} (h:p:=by rw[hg];exact Nat.ne_of_lt (aAg.lt (show aAg w0 _ g s0_0 l5 kF from by repeat(first|(with_reducible first|exact HI0.out|apply aAg.alloc|apply aAg.drewN|apply aAg.drew|apply aAg.set_1|apply aAg.set_2|refine aAg.far ?_ bF.out _|refine aAg.far ?_ bQ.out _|refine aAg.far ?_ b9.out _)|exact HI0.out)))):p:=h
theorem bCu {p:Prop} (h:p:=by rw[hg];exact Nat.ne_of_gt (aAg.lt (show aAg w0 _ g s0_0 l5 kF from by repeat(first|(with_reducible first|exact HI0.out|apply aAg.alloc|apply aAg.drewN|apply aAg.drew|apply aAg.set_1|apply aAg.set_2|refine aAg.far ?_ bF.out _|refine aAg.far ?_ bQ.out _|refine aAg.far ?_ b9.out _)|exact HI0.out)))):p:=h
theorem aW4 {p:Prop} (h:p:=by(with_reducible repeat(first|refine aA6 ?_ _|refine aA9 ?_|refine aA7 ?_ _));exact bR.out):p:=h
theorem bCt {p:Prop} (h:p:=by(with_reducible repeat(first|apply Kd.aAu|apply Kd.aAt|apply Kd.aB5));exact Kd.aBh (Kd.aDx (p:=⟨bG,1,none⟩) (Kd.aDx (p:=⟨bG,0,none⟩) (Kd.aDp bV.out aI.out (by decide)) (λ_ hk=>hk.2) (.int .i64 ((aA2 aC aZ).f0))) (λ_ hk=>hk.2) (.int .i64 ((aA2 aC aZ).f1))) (λ_ hk=>trivial)):p:=h
theorem aZm {p:Prop} (h:p:=by repeat(first|(with_reducible first|exact HB.out|apply aB6|apply aAv|apply aB3|refine aAi ?_ (aAg.ge aM6.out))|exact HB.out)):p:=h
theorem aZl {p:Prop} (h:p:=by repeat(first|(with_reducible first|exact aM6.out|apply aAg.alloc|apply aAg.drewN|apply aAg.drew|apply aAg.set_1|apply aAg.set_2)|exact aM6.out)):p:=h
theorem aZk {p:Prop} (h:p:=by repeat(first|(with_reducible first|exact HK.out|apply Kept.alloc|apply Kept.drewN|apply Kept.drew|refine Kept.setCell ?_ (.inr aDt.out) _)|exact HK.out)):p:=h
theorem bCs {p:Prop} (h:p:=by(with_reducible repeat(first|apply Kd.aAu|apply Kd.aAt|apply Kd.aB5));exact(Kd.aBh (Kd.aDx (p:=⟨dY,1,none⟩) (Kd.aDx (p:=⟨dY,0,none⟩) (Kd.aDp cQ.out bD.out (by decide)) (λ_ hk=>hk.2) (.int .i64 bP)) (λ_ hk=>hk.2) (.slice aFx aX.length aEq)) (λ_ h_=>h_.1))):p:=h
theorem aZj {p:Prop} (h:p:=by repeat(first|(with_reducible first|exact HBW.out|apply aB6|apply aAv|apply aB3|refine aAi ?_ GWg.out)|exact HBW.out)):p:=h
theorem zzS {p:Prop} (h:p:=by simp only[Act.put,List.setIfInBounds_toArray,List.set_cons_zero,List.set_cons_succ,aF0,aK5];rfl):p:=h
theorem zzT {p:Prop} (h:p:=by go_simp;with_reducible rfl):p:=h
theorem zQ {P:Program} {ops:Array Oper} {Q:Exit->Act->World->Prop} {md:Region.Mode} {S:World->Prop} {ds:List Nat} {T:Bool×List (List Nat×List Nat)} {oi:Oper} {fuel:Nat} {l:Array Bool} {a:Act} {w:World} {v:Value} {a':Act} (i:Nat) (N:Tmp) (l':Array Bool) (h:aBw P md ops Q S ds fuel l' a' w) (hi:ops[i]? = some oi:=by exact rfl) (hN:oi.dst=some N:=by exact rfl) (hT:aI2 md ops=T:=by exact HT_.out) (hy:∀ w,(execOp a.eval oi).run P w = .ok (.value v) w:=by exact λ_=>zzT) (ha:a.put (some N) v=a':=by exact zzS)
  (hw:Region.wanted oi (yielded ops a.tmps)=true:=by rfl) (hc:bEy T l.toList l'.toList i=true:=by kernel_rfl) (hQ:∀ c a w,Q (.panic c) (a.put oi.dst v) w->Q (.panic c) a w:=by exact λ_ _ _ h=>h):aBw P md ops Q S ds (fuel+1) l a w:=zP i N v l' hi hN hT hy a' ha h hw hc hQ
def aAg (w0 W:World) (g:Nat) (f0:List Int) (f1:Int) (f2:Int):Prop:=∃ A0 c0,W.heap[g]? = some (.cells #[.slice A0 f0.length c0,.int .i64 f1,.int .i64 f2] 94 (0,0))/\w0.heap.size<=g/\Kd.C (Kd.int .u8) w0 A0 f0.length f0
theorem aAg.grown {w0 W:World} {g:Nat} {f0:List Int} {f1:Int} {f2:Int} {W1:World} {row:Option Nat} (h:aAg w0 W g f0 f1 f2) (hw:W.grownBy W1 row) (hne:some g≠row):aAg w0 W1 g f0 f1 f2:=by
 obtain⟨A0,c0,hb,hg,hr0⟩:=h;exact⟨A0,c0,aAx hb hw hne,hg,hr0⟩
theorem aAg.below {w0 W:World} {g:Nat} {f0:List Int} {f1:Int} {f2:Int} {W1:World} (h:aAg w0 W g f0 f1 f2) (hw:Below W.heap.size W W1):aAg w0 W1 g f0 f1 f2:=h.grown (aM4 hw none) (by simp)
theorem aAg.drewN {w0 W:World} {g:Nat} {f0:List Int} {f1:Int} {f2:Int} (h:aAg w0 W g f0 f1 f2) (m:Nat):aAg w0 (W.drewN m) g f0 f1 f2:=h
theorem aAg.drew {w0 W:World} {g:Nat} {f0:List Int} {f1:Int} {f2:Int} (h:aAg w0 W g f0 f1 f2):aAg w0 W.drew g f0 f1 f2:=h
theorem aAg.apart {w0 W:World} {g:Nat} {f0:List Int} {f1:Int} {f2:Int} {α:Type} {d:Kd α} {e:Nat} {base:Nat} {ok:Nat->Prop} {v:Value} {xs:List α} (h:aAg w0 W g f0 f1 f2) (ho:d.R e W base ok v xs) (ht:∀ q,q∈e::d.E->q≠94):d.R e W base (λk=>ok k/\k≠g) v xs:=by
 obtain⟨A0,c0,hb,hg,hr0⟩:=h;exact Kd.aDp ho hb ht
theorem aAg.own_ne {w0 W:World} {g:Nat} {f0:List Int} {f1:Int} {f2:Int} {α:Type} {d:Kd α} {e:Nat} {base:Nat} {ok:Nat->Prop} {v:Value} {xs:List α} (h:aAg w0 W g f0 f1 f2) (ho:d.R e W base ok v xs) (ht:e≠94):some g≠v.ownBlock:=by
 obtain⟨A0,c0,hb,hg,hr0⟩:=h;exact Kd.aEd ho hb ht
theorem aAg.lt {w0 W:World} {g:Nat} {f0:List Int} {f1:Int} {f2:Int} (h:aAg w0 W g f0 f1 f2):g<W.heap.size:=by
 obtain⟨A0,c0,hb,hg,hr0⟩:=h;exact aCi hb
theorem aAg.ge {w0 W:World} {g:Nat} {f0:List Int} {f1:Int} {f2:Int} (h:aAg w0 W g f0 f1 f2):w0.heap.size<=g:=by
 obtain⟨A0,c0,hb,hg,hr0⟩:=h;exact hg
theorem aAg.aQy {w0 W:World} {g:Nat} {f0:List Int} {f1:Int} {f2:Int} {a:Nat} {cs:Array Value} {t:TypeId} {fr:Nat×Nat} (h:aAg w0 W g f0 f1 f2) (hb2:W.heap[a]? = some (.cells cs t fr)) (ht:t≠94):g≠a:=by
 obtain⟨A0,c0,hb,hg,hr0⟩:=h;rintro rfl;rw[hb]at hb2;injection hb2 with hb2;injection hb2 with _ ht2;exact ht ht2.symm
theorem aAg.far {w0 W:World} {g:Nat} {f0:List Int} {f1:Int} {f2:Int} {p:Addr} (h:aAg w0 W g f0 f1 f2) (hne:g≠p.block) (u:Value):aAg w0 (W.setCell p u) g f0 f1 f2:=by
 obtain⟨A0,c0,hb,hg,hr0⟩:=h;exact⟨A0,c0,aCb hb hne u,hg,hr0⟩
theorem cellS94_0 {W:World} {g:Nat} {A0:Option Addr} {c0:Nat} {f0:List Int} {f1:Int} {f2:Int} (h:W.heap[g]? = some (.cells #[.slice A0 f0.length c0,.int .i64 f1,.int .i64 f2] 94 (0,0))):W.cell? ⟨g,0,none⟩=some (.slice A0 f0.length c0):=(aAs h 0).trans rfl
theorem cellS94_1 {W:World} {g:Nat} {A0:Option Addr} {c0:Nat} {f0:List Int} {f1:Int} {f2:Int} (h:W.heap[g]? = some (.cells #[.slice A0 f0.length c0,.int .i64 f1,.int .i64 f2] 94 (0,0))):W.cell? ⟨g,1,none⟩=some (.int .i64 f1):=(aAs h 1).trans rfl
theorem aAg.set_1 {w0 W:World} {g:Nat} {f0:List Int} {f1:Int} {f2:Int} (h:aAg w0 W g f0 f1 f2) (x:Int):aAg w0 (W.setCell ⟨g,1,none⟩ (.int .i64 x)) g f0 x f2:=by
 obtain⟨A0,c0,hb,hg,hr0⟩:=h;exact⟨A0,c0,by simpa using aLq hb 1 (.int .i64 x),hg,hr0⟩
theorem cellS94_2 {W:World} {g:Nat} {A0:Option Addr} {c0:Nat} {f0:List Int} {f1:Int} {f2:Int} (h:W.heap[g]? = some (.cells #[.slice A0 f0.length c0,.int .i64 f1,.int .i64 f2] 94 (0,0))):W.cell? ⟨g,2,none⟩=some (.int .i64 f2):=(aAs h 2).trans rfl
theorem aAg.set_2 {w0 W:World} {g:Nat} {f0:List Int} {f1:Int} {f2:Int} (h:aAg w0 W g f0 f1 f2) (x:Int):aAg w0 (W.setCell ⟨g,2,none⟩ (.int .i64 x)) g f0 f1 x:=by
 obtain⟨A0,c0,hb,hg,hr0⟩:=h;exact⟨A0,c0,by simpa using aLq hb 2 (.int .i64 x),hg,hr0⟩
def aCn.f (s0_0:List Int) (s0_1:Int) (s0_2:Int):Option (Int×Int×Int):=if s0_1<(s0_0.length:Int) then(if 0<=s0_1 then(some (Go.bits .and .i64 (wrap64 ((Go.bits .and .i64 (Go.bits .xor .i64 ((wrap64 ((wrap64 (s0_2*6364136223846793005))+1442695040888963407))/8589934592) ((wrap64 ((wrap64 (s0_2*6364136223846793005))+1442695040888963407))/35184372088832)) 255)+(wrap64 (rd s0_0 s0_1)))) 255,wrap64 (s0_1+1),wrap64 ((wrap64 (s0_2*6364136223846793005))+1442695040888963407))) else(none)) else(some (Go.bits .and .i64 (Go.bits .xor .i64 ((wrap64 ((wrap64 (s0_2*6364136223846793005))+1442695040888963407))/8589934592) ((wrap64 ((wrap64 (s0_2*6364136223846793005))+1442695040888963407))/35184372088832)) 255,s0_1,wrap64 ((wrap64 (s0_2*6364136223846793005))+1442695040888963407)))
theorem aCn.calls (g:Nat) (s0_0:List Int) (s0_1:Int) (s0_2:Int) (r1:Int) (r2:Int) (r3:Int) (w0 w:World) (hI:aAg w0 w g s0_0 s0_1 s0_2) (hB:Below w0.heap.size w0 w) (h:aCn.f s0_0 s0_1 s0_2=some (r1,r2,r3)) :
  Calls Try.prog 98 #[.pointer (some ⟨g,0,none⟩)] w λe w'=>e = .returned (.int .i64 r1)/\aAg w0 w' g s0_0 r2 r3/\Below w0.heap.size w0 w'/\aAm w w' g none:=by
 have HI0:=zK_ hI;have HK:=zK_ (aAm.refl w g none);have HL:=zK_ hB.size;clear hI;have HW0:=zK_ hB.size;have HB:=zK_ hB;clear hB;have H:(if s0_1<(s0_0.length:Int) then(if 0<=s0_1 then(some (Go.bits .and .i64 (wrap64 ((Go.bits .and .i64 (Go.bits .xor .i64 ((wrap64 ((wrap64 (s0_2*6364136223846793005))+1442695040888963407))/8589934592) ((wrap64 ((wrap64 (s0_2*6364136223846793005))+1442695040888963407))/35184372088832)) 255)+(wrap64 (rd s0_0 s0_1)))) 255,wrap64 (s0_1+1),wrap64 ((wrap64 (s0_2*6364136223846793005))+1442695040888963407))) else(none)) else(some (Go.bits .and .i64 (Go.bits .xor .i64 ((wrap64 ((wrap64 (s0_2*6364136223846793005))+1442695040888963407))/8589934592) ((wrap64 ((wrap64 (s0_2*6364136223846793005))+1442695040888963407))/35184372088832)) 255,s0_1,wrap64 ((wrap64 (s0_2*6364136223846793005))+1442695040888963407))))=some (r1,r2,r3):=h;clear h;by_cases c2:s0_1<(s0_0.length:Int);rotate_left
 ·rw[if_neg c2]at H;have mH:=zdN c2;clear c2;simp only[Option.some.injEq,Prod.mk.injEq]at H;obtain⟨rfl,rfl,rfl⟩:=H;obtain⟨ASz5_0,cSz5_0,bCj,bKm,HSz5_0⟩:=HI0.out;have mG:=cellS94_0 bCj;have mF:=cellS94_1 bCj;have K7:=cellS94_2 bCj;have mE:=aA0 bCj 1;have KU:=aA0 bCj 2;clear bCj bKm;go_enter Try.func98,Try.ntmps98;go_wp2;(repeat(go_quiet (fail);try go_wp2));go_ret;exact⟨zz9,aQf,aPg,aLw⟩
 rw[if_pos c2]at H;have mH:=zdY c2;clear c2;by_cases c3:0<=s0_1;rotate_left
 ·rw[if_neg c3]at H;exact absurd H (by simp)
 rw[if_pos c3]at H;have i4:=zdY c3;clear c3;simp only[Option.some.injEq,Prod.mk.injEq]at H;obtain⟨rfl,rfl,rfl⟩:=H;obtain⟨ASz4_0,cSz4_0,bCk,bKn,HSz4_0⟩:=HI0.out;have yI:=cellS94_0 bCk;have yH:=cellS94_1 bCk;have K8:=cellS94_2 bCk;have yF:=aA0 bCk 1;have KV:=aA0 bCk 2;clear bCk bKn;have aE0:0<=(s0_1:Int):=zdT zz4;have aDz:s0_1<(s0_0.length:Int):=zdT zz4;obtain⟨fC,aG5,bU⟩:=Kd.aCz HSz4_0 s0_1 aE0 aDz;cases aG5;have hn101_0:fC.block≠g:=Nat.ne_of_lt (Nat.lt_of_lt_of_le (by have:=World.block_lt_of_cell? _ _ bU;first|rwa[add_block]at this|exact this) (aAg.ge HI0.out));replace bU:=aGz HB.out bU;replace bU:=(cell_far (p:=⟨g,2,none⟩) (by first|(rw[add_block];exact hn101_0)|(show (Addr.add _ _).block≠_;rw[add_block];exact hn101_0)|exact hn101_0) (.int .i64 (wrap64 ((wrap64 (s0_2*6364136223846793005))+1442695040888963407)))).trans bU;(try have hy101_0:=λ(n_:Nat)=>(show (((w.drewN n_).setCell ⟨g,2,none⟩ (.int .i64 (wrap64 ((wrap64 (s0_2*6364136223846793005))+1442695040888963407))))).cell? _=some _ from bU));clear hn101_0;replace aE0:=eq_true aE0;replace aDz:=eq_true aDz;go_enter Try.func98,Try.ntmps98;go_wp2;(repeat(go_quiet (fail);try go_wp2));go_ret;exact⟨zz9,aQf,aPg,aLw⟩
def aBn.l0:Nat->List Int->Int->Int->Option (List Int×Int×Int)
 | 0,_,_,_=>none
 | k+1,x0,x3,x4=>if x4<(x0.length:Int) then(if x4<4000 then(if 0<=x4 then(aBn.l0 k x0 (Go.bits .and .i64 (wrap64 ((wrap64 ((wrap64 (x3*97))+(wrap64 (rd x0 x4))))+7)) 1073741823) (wrap64 (x4+1))) else(none)) else(some (x0,0,x3))) else(some (x0,0,x3))
def aBn.f (k:Nat) (l0:List Int):Option (List Int×Int×Int):=aBn.l0 k l0 (wrap64 (2069+(l0.length:Int))) 0
theorem aBn.aBa:∀ k,(∀ y0 y1 y2,LeO (aBn.l0 k y0 y1 y2) (aBn.l0 (k+1) y0 y1 y2))
 | 0=>λ_ _ _ r h=>by simp[aBn.l0]at h
 | k+1=>by
  have ih0:=aBn.aBa k
  ·intro y0 y1 y2
   unfold aBn.l0
   exact zm0
theorem aBn.mono:∀ a0 k,LeO (aBn.f k a0) (aBn.f (k+1) a0):=by
 intro a0 k;have ih0:=aBn.aBa k;unfold aBn.f;exact zm0
theorem aBn.aYt (k:Nat) (A0:Option Addr) (c0:Nat) (l0:List Int) (r1:List Int) (r2:Int) (r3:Int) (w0 w:World) (hB:Below w0.heap.size w0 w) (hr0:Kd.C (Kd.int .u8) w0 A0 l0.length l0) (hc0:l0.length<=c0) (h:aBn.f k l0=some (r1,r2,r3)) :
  Calls Try.prog 36 #[.slice A0 l0.length c0] w λe w'=>∃ g_:Nat,e = .returned (.pointer (some ⟨g_,0,none⟩))/\aAg w0 w' g_ r1 r2 r3/\Below w0.heap.size w0 w'/\Below w.heap.size w w'/\w.heap.size<=g_:=by
 have bMc:=Try.underlying94;have HR0:=zK_ hr0;have HC0:=zK_ hc0;clear hr0 hc0;have HBW:=zK_ (Below.refl w.heap.size w);have HW0:=zK_ hB.size;have HB:=zK_ hB;clear hB;have H:(aBn.l0 k l0 (wrap64 (2069+(l0.length:Int))) 0)=some (r1,r2,r3):=h;clear h;have H':=zK_ H;clear H;go_enter Try.func36,Try.ntmps36;go_wp2;(go_loopg [3,4] k (λkq v3 v4 w'=>∃ (dJ:Int) (bO:Int),v3 = .int .i64 dJ/\v4 = .int .i64 bO/\aA1 (aBn.l0 kq l0 dJ bO=some (r1,r2,r3))/\aA1 (kq<=k)/\aA1 (Below w0.heap.size w0 w')/\aA1 (Below w.heap.size w w')));case atStart=>exact⟨(wrap64 (2069+(l0.length:Int))),(0),zz5,zz5,H',⟨Nat.le_refl _⟩,⟨zz2⟩,⟨by repeat(first|(with_reducible first|exact HBW.out|apply aB6|apply aAv|apply aB3)|exact HBW.out)⟩⟩
 case round =>
  clear H';obtain⟨dJ,bO,rfl,rfl,HA,HK1,HB,HBW⟩:=hrel
  cases gk with
  | zero=>exact absurd HA.out (by simp[aBn.l0])
  | succ k1 =>
   have H:=HA.out;clear HA;simp only[aBn.l0]at H;by_cases c2:bO<(l0.length:Int);rotate_left
   ·rw[if_neg c2]at H;have mH:=zdN c2;clear c2;simp only[Option.some.injEq,Prod.mk.injEq]at H;obtain⟨rfl,rfl,rfl⟩:=H;(go_wp2_with (first|((with_reducible refine aAw (N:=31) rfl ?_);refine aAq ?hg (N:=31) ?hd (cs:=#[.slice A0 l0.length c0,.int .i64 0,.int .i64 dJ]) (t:=94) ?hr ?_;(case hd=>rfl);(case hg=>rfl);(case hr=>exact aDq);intro b6 hg w6 hbox hb;have n_:=zA5 (aA3 HBW.out hb) (aA3 zz2 hb) hbox (by rw[hg];exact(aAj bC0):w.heap.size<=b6) (Nat.le_trans HW0.out (by rw[hg];exact(aAj bC0):w.heap.size<=b6):w0.heap.size<=b6);clear HBW HB;obtain⟨HBW,HB,bR,aK6,aK8⟩:=n_;clear hb hbox hg)));go_ret;exact⟨_,rfl,(show aAg w0 _ b6 l0 0 dJ from ⟨_,_,by(with_reducible repeat(first|refine aA6 ?_ _|refine aA9 ?_|refine aA7 ?_ _));exact bR.out,aK8.out,HR0.out⟩),by repeat(first|(with_reducible first|exact HB.out|apply aB6|apply aAv|apply aB3|refine aAi ?_ aK8.out)|exact HB.out),by repeat(first|(with_reducible first|exact HBW.out|apply aB6|apply aAv|apply aB3|refine aAi ?_ aK6.out)|exact HBW.out),aK6.out⟩
   rw[if_pos c2]at H;have mH:=zdY c2;clear c2;by_cases c3:bO<4000;rotate_left
   ·rw[if_neg c3]at H;have i4:=zdN c3;clear c3;simp only[Option.some.injEq,Prod.mk.injEq]at H;obtain⟨rfl,rfl,rfl⟩:=H;(go_wp2_with (first|((with_reducible refine aAw (N:=31) rfl ?_);refine aAq ?hg (N:=31) ?hd (cs:=#[.slice A0 l0.length c0,.int .i64 0,.int .i64 dJ]) (t:=94) ?hr ?_;(case hd=>rfl);(case hg=>rfl);(case hr=>exact aDq);intro aW hg w5 hbox hb;have n_:=zA5 (aA3 HBW.out hb) (aA3 zz2 hb) hbox (by rw[hg];exact(aAj bC0):w.heap.size<=aW) (Nat.le_trans HW0.out (by rw[hg];exact(aAj bC0):w.heap.size<=aW):w0.heap.size<=aW);clear HBW HB;obtain⟨HBW,HB,aH,aG8,aEv⟩:=n_;clear hb hbox hg)));go_ret;exact⟨_,rfl,(show aAg w0 _ aW l0 0 dJ from ⟨_,_,zz6,aEv.out,HR0.out⟩),aW7,by repeat(first|(with_reducible first|exact HBW.out|apply aB6|apply aAv|apply aB3|refine aAi ?_ aG8.out)|exact HBW.out),aG8.out⟩
   rw[if_pos c3]at H;have i4:=zdY c3;clear c3;by_cases c4:0<=bO;rotate_left
   ·rw[if_neg c4]at H;exact absurd H (by simp)
   rw[if_pos c4]at H;have iI:=zdY c4;clear c4;have H':=zK_ H;clear H;have aE0:0<=(bO:Int):=zdT zz4;have aDz:bO<(l0.length:Int):=zdT zz4;obtain⟨fC,aG5,bU⟩:=Kd.aCz HR0.out bO aE0 aDz;cases aG5;replace bU:=aGz HB.out bU;replace aE0:=eq_true aE0;replace aDz:=eq_true aDz;go_wp2;go_roundg k1;(case measure=>have:=HK1.out;omega);case rel=>exact⟨(Go.bits .and .i64 (wrap64 ((wrap64 ((wrap64 (dJ*97))+(wrap64 (rd l0 bO))))+7)) 1073741823),(wrap64 (bO+1)),zz5,zz5,H',⟨aFc⟩,⟨zz2⟩,⟨by repeat(first|(with_reducible first|exact HBW.out|apply aB6|apply aAv|apply aB3)|exact HBW.out)⟩⟩
theorem aBn.calls (k:Nat) (A0:Option Addr) (c0:Nat) (l0:List Int) (r1:List Int) (r2:Int) (r3:Int) (w0 w:World) (hB:Below w0.heap.size w0 w) (hr0:Kd.C (Kd.int .u8) w0 A0 l0.length l0) (hc0:l0.length<=c0) (h:aBn.f k l0=some (r1,r2,r3)) :
  Calls Try.prog 36 #[.slice A0 l0.length c0] w λe w'=>∃ g_:Nat,e = .returned (.pointer (some ⟨g_,0,none⟩))/\aAg w0 w' g_ r1 r2 r3/\Below w0.heap.size w0 w'/\Below w.heap.size w w':=by
 refine(aBn.aYt k A0 c0 l0 r1 r2 r3 w0 w hB hr0 hc0 h).mono ?_;rintro e w' ⟨g_,rfl,hi,hb,hb2,_⟩;exact⟨g_,rfl,hi,hb,hb2⟩
def aC4.f (s0_0:List Int) (s0_1:Int) (s0_2:Int) (a1:Int):Option (Int×Int×Int):=if a1<=0 then(some (0,s0_1,s0_2)) else(if a1<=256 then((aCn.f s0_0 s0_1 s0_2).bind λbS=>(if a1=0 then(none) else(some (Int.tmod bS.1 a1,bS.2.1,bS.2.2)))) else((aCn.f s0_0 s0_1 s0_2).bind λlB=>((aCn.f s0_0 lB.2.1 lB.2.2).bind λmX=>((aCn.f s0_0 mX.2.1 mX.2.2).bind λoH=>((aCn.f s0_0 oH.2.1 oH.2.2).bind λoF=>(if a1=0 then(none) else(some (Int.tmod (wrap64 ((wrap64 ((wrap64 ((wrap64 (lB.1*16777216))+(wrap64 (mX.1*65536))))+(wrap64 (oH.1*256))))+oF.1)) a1,oF.2.1,oF.2.2))))))))
theorem aC4.calls (g:Nat) (s0_0:List Int) (s0_1:Int) (s0_2:Int) (a1:Int) (r1:Int) (r2:Int) (r3:Int) (w0 w:World) (hI:aAg w0 w g s0_0 s0_1 s0_2) (hB:Below w0.heap.size w0 w) (h:aC4.f s0_0 s0_1 s0_2 a1=some (r1,r2,r3)) :
  Calls Try.prog 56 #[.pointer (some ⟨g,0,none⟩),.int .i64 a1] w λe w'=>e = .returned (.int .i64 r1)/\aAg w0 w' g s0_0 r2 r3/\Below w0.heap.size w0 w'/\aAm w w' g none:=by
 have HI0:=zK_ hI;have HK:=zK_ (aAm.refl w g none);have HL:=zK_ hB.size;clear hI;have HW0:=zK_ hB.size;have HB:=zK_ hB;clear hB;have H:(if a1<=0 then(some (0,s0_1,s0_2)) else(if a1<=256 then((aCn.f s0_0 s0_1 s0_2).bind λbS=>(if a1=0 then(none) else(some (Int.tmod bS.1 a1,bS.2.1,bS.2.2)))) else((aCn.f s0_0 s0_1 s0_2).bind λlB=>((aCn.f s0_0 lB.2.1 lB.2.2).bind λmX=>((aCn.f s0_0 mX.2.1 mX.2.2).bind λoH=>((aCn.f s0_0 oH.2.1 oH.2.2).bind λoF=>(if a1=0 then(none) else(some (Int.tmod (wrap64 ((wrap64 ((wrap64 ((wrap64 (lB.1*16777216))+(wrap64 (mX.1*65536))))+(wrap64 (oH.1*256))))+oF.1)) a1,oF.2.1,oF.2.2)))))))))=some (r1,r2,r3):=h;clear h;by_cases c3:a1<=0
 ·rw[if_pos c3]at H;have i4:=zdY c3;clear c3;simp only[Option.some.injEq,Prod.mk.injEq]at H;obtain⟨rfl,rfl,rfl⟩:=H;go_enter Try.func56,Try.ntmps56;go_wp2;go_ret;exact⟨zz9,aQf,aPg,aLw⟩
 rw[if_neg c3]at H;have i4:=zdN c3;clear c3;by_cases c4:a1<=256
 ·rw[if_pos c4]at H;have iI:=zdY c4;clear c4;replace H:=zO_ H;obtain⟨⟨bP,aX,bE⟩,A50,H⟩:=H;dsimp only at H;have A5:=zK_ A50;clear A50;by_cases c6:a1=0
  ·rw[if_pos c6]at H;exact absurd H (by simp)
  rw[if_neg c6]at H;have iT:(a1==0)=false:=beq_eq_false_iff_ne.mpr c6;have nI:(a1 != 0)=true:=bne_iff_ne.mpr c6;simp only[Option.some.injEq,Prod.mk.injEq]at H;obtain⟨rfl,rfl,rfl⟩:=H;go_enter Try.func56,Try.ntmps56;(go_wp2_with (first|((with_reducible refine aAa (f:=98) rfl ?_);refine aBg (some 14) rfl rfl Try.func98 (by kernel_rfl) rfl #[.pointer (some ⟨g,0,none⟩)] rfl zz3 ?_;(with_reducible refine(aCn.calls g s0_0 s0_1 s0_2 bP aX bE w0 _ ?side1 ?side2 A5.out).mono ?_);(case side1=>exact aQf);(case side2=>exact aPg);rintro e w7 ⟨rfl,hi,hb,hk⟩;refine⟨_,rfl,?_⟩;have n_:=zA3 (aAm.trans aLw hk (.inl rfl)) hb hi;clear HK HB HI0;obtain⟨HK,HB,HI0⟩:=n_;clear hi hb hk)));go_ret;exact⟨zz9,aQf,aPg,aLw⟩
 rw[if_neg c4]at H;have iI:=zdN c4;clear c4;replace H:=zO_ H;obtain⟨⟨gV,eG,b3⟩,A80,H⟩:=H;dsimp only at H;have A8:=zK_ A80;clear A80;replace H:=zO_ H;obtain⟨⟨gW,fE,cV⟩,A90,H⟩:=H;dsimp only at H;have A9:=zK_ A90;clear A90;replace H:=zO_ H;obtain⟨⟨oC,jG,jD⟩,bJq,H⟩:=H;dsimp only at H;have A10:=zK_ bJq;clear bJq;replace H:=zO_ H;obtain⟨⟨oB,m8,gC⟩,aZ6,H⟩:=H;dsimp only at H;have A11:=zK_ aZ6;clear aZ6;by_cases c12:a1=0
 ·rw[if_pos c12]at H;exact absurd H (by simp)
 rw[if_neg c12]at H;have oT:(a1==0)=false:=beq_eq_false_iff_ne.mpr c12;have uG:(a1 != 0)=true:=bne_iff_ne.mpr c12;simp only[Option.some.injEq,Prod.mk.injEq]at H;obtain⟨rfl,rfl,rfl⟩:=H;go_enter Try.func56,Try.ntmps56;(go_wp2_with (first|((with_reducible refine aAa (f:=98) rfl ?_);refine aBg (some 18) rfl rfl Try.func98 (by kernel_rfl) rfl #[.pointer (some ⟨g,0,none⟩)] rfl zz3 ?_;(with_reducible refine(aCn.calls g s0_0 s0_1 s0_2 gV eG b3 w0 _ ?side1 ?side2 A8.out).mono ?_);(case side1=>exact aQf);(case side2=>exact aPg);rintro e w13 ⟨rfl,hi,hb,hk⟩;refine⟨_,rfl,?_⟩;have n_:=zA3 (aAm.trans aLw hk (.inl rfl)) hb hi;clear HK HB HI0;obtain⟨HK,HB,HI0⟩:=n_;clear hi hb hk)|((with_reducible refine aAa (f:=98) rfl ?_);refine aBg (some 20) rfl rfl Try.func98 (by kernel_rfl) rfl #[.pointer (some ⟨g,0,none⟩)] rfl zz3 ?_;(with_reducible refine(aCn.calls g s0_0 eG b3 gW fE cV w0 _ ?side1 ?side2 A9.out).mono ?_);(case side1=>exact aQf);(case side2=>exact aPg);rintro e w14 ⟨rfl,hi,hb,hk⟩;refine⟨_,rfl,?_⟩;have n_:=zA3 (aAm.trans aLw hk (.inl rfl)) hb hi;clear HK HB HI0;obtain⟨HK,HB,HI0⟩:=n_;clear hi hb hk)|((with_reducible refine aAa (f:=98) rfl ?_);refine aBg (some 22) rfl rfl Try.func98 (by kernel_rfl) rfl #[.pointer (some ⟨g,0,none⟩)] rfl zz3 ?_;(with_reducible refine(aCn.calls g s0_0 fE cV oC jG jD w0 _ ?side1 ?side2 A10.out).mono ?_);(case side1=>exact aQf);(case side2=>exact aPg);rintro e w15 ⟨rfl,hi,hb,hk⟩;refine⟨_,rfl,?_⟩;have n_:=zA3 (aAm.trans aLw hk (.inl rfl)) hb hi;clear HK HB HI0;obtain⟨HK,HB,HI0⟩:=n_;clear hi hb hk)|((with_reducible refine aAa (f:=98) rfl ?_);refine aBg (some 24) rfl rfl Try.func98 (by kernel_rfl) rfl #[.pointer (some ⟨g,0,none⟩)] rfl zz3 ?_;(with_reducible refine(aCn.calls g s0_0 jG jD oB m8 gC w0 _ ?side1 ?side2 A11.out).mono ?_);(case side1=>exact aQf);(case side2=>exact aPg);rintro e w16 ⟨rfl,hi,hb,hk⟩;refine⟨_,rfl,?_⟩;have n_:=zA3 (aAm.trans aLw hk (.inl rfl)) hb hi;clear HK HB HI0;obtain⟨HK,HB,HI0⟩:=n_;clear hi hb hk)));go_ret;exact⟨zz9,aQf,aPg,aLw⟩
def aDh.f (aE:Int) (aC:List (S73)) (a1:Int):Option (Bool):=if a1≥0 then(some (decide (a1<aE))) else(some false)
theorem aDh.calls (aE:Int) (aQ:Option Addr) (aG:Nat) (aC:List (S73)) (a1:Int) (r:Bool) (w:World) (hr0_1:Kd.C k73 w aQ aC.length aC) (hc0_1:aC.length<=aG) (h:aDh.f aE aC a1=some r) :
  Calls Try.prog 113 #[.agg #[.int .i64 aE,.slice aQ aC.length aG],.int .i64 a1] w λe w'=>e = .returned (.bool r)/\Below w.heap.size w w':=by
 have aIh:=Try.underlying25;have b7:=zK_ hr0_1;have bY:=zK_ hc0_1;clear hr0_1 hc0_1;have HB:=zK_ (Below.refl w.heap.size w);have H:(if a1≥0 then(some (decide (a1<aE))) else(some false))=some r:=h;clear h;by_cases c3:a1≥0
 ·rw[if_pos c3]at H;have i4:decide (0<=a1)=true:=zdY c3;clear c3;obtain rfl:=zdI H;go_enter Try.func113,Try.ntmps113;(go_wp2_with (first|((with_reducible refine aAw (N:=2) rfl ?_);refine aAq ?hg (N:=2) ?hd (cs:=#[.int .i64 aE,.slice aQ aC.length aG]) (t:=25) ?hr ?_;(case hd=>rfl);(case hg=>rfl);(case hr=>exact aDq);intro aD hg w4 hbox hb;have n_:=zA4 (aA3 zz2 hb) hbox (aE1:w.heap.size<=aD) (aE1:w.heap.size<=aD);clear HB;obtain⟨HB,aA,aDt,aDe⟩:=n_;clear hb hbox hg;have mG:=aCg aA;have mF:=aCf aA;have m9:=aA0 aA.out 0;have mE:=aA0 aA.out 1)));go_ret;exact⟨zz9,zz1⟩
 rw[if_neg c3]at H;have i4:decide (0<=a1)=false:=zdN c3;clear c3;obtain rfl:=zdI H;go_enter Try.func113,Try.ntmps113;(go_wp2_with (first|((with_reducible refine aAw (N:=2) rfl ?_);refine aAq ?hg (N:=2) ?hd (cs:=#[.int .i64 aE,.slice aQ aC.length aG]) (t:=25) ?hr ?_;(case hd=>rfl);(case hg=>rfl);(case hr=>exact aDq);intro aD hg w6 hbox hb;have n_:=zA4 (aA3 zz2 hb) hbox (aE1:w.heap.size<=aD) (aE1:w.heap.size<=aD);clear HB;obtain⟨HB,aA,aDt,aDe⟩:=n_;clear hb hbox hg)));go_ret;exact⟨zz9,zz1⟩
mutual
def aAe.j0:Nat->Int->Int->Int->Bool->Int->List (S73)->Option (Int)
 | 0,_,_,_,_,_,_=>none
 | k+1,x1,x2,x7,u2,aU,aM=>if u2=true then(some 0) else(aAe.l0 k x1 x2 x7 aM (aM.length:Int) 0)
def aAe.l0:Nat->Int->Int->Int->List (S73)->Int->Int->Option (Int)
 | 0,_,_,_,_,_,_=>none
 | k+1,x1,x2,x7,tE,uS,rD=>if rD<uS then(if 0<=rD then(if rD<(tE.length:Int) then(if((aA2 tE rD).f0)=(mn x1 x2) then(if((aA2 tE rD).f1)=(mx x1 x2) then(aAe.l0 k x1 x2 (wrap64 (x7+1)) tE uS (wrap64 (rD+1))) else(aAe.l0 k x1 x2 x7 tE uS (wrap64 (rD+1)))) else(aAe.l0 k x1 x2 x7 tE uS (wrap64 (rD+1)))) else(none)) else(none)) else(some x7)
end
def aAe.f (k:Nat) (aE:Int) (aC:List (S73)) (a1:Int) (a2:Int):Option (Int):=(aDh.f aE aC a1).bind λaX=>(if aX=true then((aDh.f aE aC a2).bind λbE=>(if bE=true then(aAe.j0 k a1 a2 0 (a1==a2) aE aC) else(aAe.j0 k a1 a2 0 true aE aC))) else(aAe.j0 k a1 a2 0 true aE aC))
theorem aAe.aBa:∀ k,(∀ y0 y1 y2 y3 y4 y5,LeO (aAe.j0 k y0 y1 y2 y3 y4 y5) (aAe.j0 (k+1) y0 y1 y2 y3 y4 y5))/\(∀ y0 y1 y2 y3 y4 y5,LeO (aAe.l0 k y0 y1 y2 y3 y4 y5) (aAe.l0 (k+1) y0 y1 y2 y3 y4 y5))
 | 0=>⟨λ_ _ _ _ _ _ r h=>by simp[aAe.j0]at h,λ_ _ _ _ _ _ r h=>by simp[aAe.l0]at h⟩
 | k+1=>by
  obtain⟨ih0,ih1⟩:=aAe.aBa k
  refine⟨?_,?_⟩
  ·intro y0 y1 y2 y3 y4 y5
   unfold aAe.j0
   exact zm1
  ·intro y0 y1 y2 y3 y4 y5
   unfold aAe.l0
   exact zm1
theorem aAe.mono:∀ a0 a1 a2 a3 k,LeO (aAe.f k a0 a1 a2 a3) (aAe.f (k+1) a0 a1 a2 a3):=by
 intro a0 a1 a2 a3 k;obtain⟨ih0,ih1⟩:=aAe.aBa k;unfold aAe.f;exact zm1
theorem aAe.calls (k:Nat) (aE:Int) (aQ:Option Addr) (aG:Nat) (aC:List (S73)) (a1:Int) (a2:Int) (r:Int) (w:World) (hr0_1:Kd.C k73 w aQ aC.length aC) (hc0_1:aC.length<=aG) (h:aAe.f k aE aC a1 a2=some r) :
  Calls Try.prog 77 #[.agg #[.int .i64 aE,.slice aQ aC.length aG],.int .i64 a1,.int .i64 a2] w λe w'=>e = .returned (.int .i64 r)/\Below w.heap.size w w':=by
 have aIh:=Try.underlying25;have aUl:=Try.underlying73;have b7:=zK_ hr0_1;have bY:=zK_ hc0_1;clear hr0_1 hc0_1;have HB:=zK_ (Below.refl w.heap.size w);have H:((aDh.f aE aC a1).bind λaX=>(if aX=true then((aDh.f aE aC a2).bind λbE=>(if bE=true then(aAe.j0 k a1 a2 0 (a1==a2) aE aC) else(aAe.j0 k a1 a2 0 true aE aC))) else(aAe.j0 k a1 a2 0 true aE aC)))=some r:=h;clear h;have HC4:=zK_ H;clear H;go_enter Try.func77,Try.ntmps77;(go_upto_region 2 with (first|((with_reducible refine aAw (N:=3) rfl ?_);(try(refine aBu (by rfl) ?_;dsimp only));refine aAq ?hg (N:=3) ?hd (cs:=#[.int .i64 aE,.slice aQ aC.length aG]) (t:=25) ?hr ?_;(case hd=>rfl);(case hg=>rfl);(case hr=>exact aDq);intro aD hg w5 hbox hb;have n_:=zA4 (aA3 zz2 hb) hbox (aE1:w.heap.size<=aD) (aE1:w.heap.size<=aD);clear HB;obtain⟨HB,aA,aDt,aDe⟩:=n_;clear hb hbox hg)));(try simp only[Act.put,List.setIfInBounds_toArray,List.set_cons_zero,List.set_cons_succ]);go_cut [24] (λv24 wc=>∃ (kq:Nat) (rR:Bool),v24 = .bool rR/\aA1 (aAe.j0 kq a1 a2 0 rR aE aC=some r)/\aA1 (kq<=k)/\aA1 (wc.heap[aD]? = some (.cells #[.int .i64 aE,(.slice aQ aC.length aG)] 25 (0,0)))/\aA1 (Below w.heap.size w wc))
 case first =>
  have H:=HC4.out;clear HC4;obtain⟨aX,A60,H⟩:=zO_ H;(try dsimp only at H);have A6:=zK_ A60;clear A60;by_cases c7:aX=true;rotate_left
  ·replace c7:=zdB c7;subst c7;rw[if_neg (show ¬ (false=true) by decide)]at H;have H':=zK_ H;clear H;have pQ:=aCg aA;have pP:=aCf aA;have pE:=aA0 aA.out 0;have pD:=aA0 aA.out 1;(go_wp2_with (first|((with_reducible refine aAa (f:=113) rfl ?_);refine aBg (some 12) rfl rfl Try.func113 (by kernel_rfl) rfl #[.agg #[.int .i64 aE,.slice aQ aC.length aG],.int .i64 a1] rfl zz3 ?_;(with_reducible refine(aDh.calls aE _ _ aC a1 false _ ?side1 ?side2 A6.out).mono ?_);(case side1=>exact zz7);(case side2=>exact bY.out);rintro e w19 ⟨rfl,hb⟩;refine⟨_,rfl,?_⟩;have n_:=zA2 (aA4 (g:=aD) (o:=.cells #[.int .i64 aE,.slice aQ aC.length aG] 25 (0,0)) zz0 hb) (aA3 zz1 hb);clear aA HB;obtain⟨aA,HB⟩:=n_;clear hb)));(go_meet);case rel=>exact⟨_,(true),zz5,H',⟨by first|omega|exact Nat.le_refl _⟩,⟨zz0⟩,⟨zz1⟩⟩
  subst c7;rw[if_pos rfl]at H;obtain⟨bE,A80,H⟩:=zO_ H;(try dsimp only at H);have A8:=zK_ A80;clear A80;by_cases c9:bE=true
  ·subst c9;rw[if_pos rfl]at H;have H':=zK_ H;clear H;have eE:=aCg aA;have eD:=aCf aA;have eB:=aA0 aA.out 0;have d9:=aA0 aA.out 1;(go_wp2_with (first|((with_reducible refine aAa (f:=113) rfl ?_);refine aBg (some 12) rfl rfl Try.func113 (by kernel_rfl) rfl #[.agg #[.int .i64 aE,.slice aQ aC.length aG],.int .i64 a1] rfl zz3 ?_;(with_reducible refine(aDh.calls aE _ _ aC a1 true _ ?side1 ?side2 A6.out).mono ?_);(case side1=>exact zz7);(case side2=>exact bY.out);rintro e w11 ⟨rfl,hb⟩;refine⟨_,rfl,?_⟩;have n_:=zA2 (aA4 (g:=aD) (o:=.cells #[.int .i64 aE,.slice aQ aC.length aG] 25 (0,0)) zz0 hb) (aA3 zz1 hb);clear aA HB;obtain⟨aA,HB⟩:=n_;clear hb;have kP:=aCg aA;have kO:=aCf aA;have kL:=aA0 aA.out 0;have kK:=aA0 aA.out 1)|(go_at_call 113;(with_reducible refine(aDh.calls aE _ _ aC a2 true _ ?side1 ?side2 A8.out).mono ?_);(case side1=>exact zz7);(case side2=>exact bY.out);rintro e w13 ⟨rfl,hb⟩;have n_:=zA2 (aA4 (g:=aD) (o:=.cells #[.int .i64 aE,.slice aQ aC.length aG] 25 (0,0)) zz0 hb) (aA3 zz1 hb);clear aA HB;obtain⟨aA,HB⟩:=n_;(try clear hb);(try clear hb2);(try clear hk);(try clear hi))));(go_meet);case rel=>exact⟨_,((a1==a2)),zz5,H',⟨by first|omega|exact Nat.le_refl _⟩,⟨zz0⟩,⟨zz1⟩⟩
  replace c9:=zdB c9;subst c9;rw[if_neg (show ¬ (false=true) by decide)]at H;have H':=zK_ H;clear H;have iO:=aCg aA;have iN:=aCf aA;have iM:=aA0 aA.out 0;have iL:=aA0 aA.out 1;(go_wp2_with (first|((with_reducible refine aAa (f:=113) rfl ?_);refine aBg (some 12) rfl rfl Try.func113 (by kernel_rfl) rfl #[.agg #[.int .i64 aE,.slice aQ aC.length aG],.int .i64 a1] rfl zz3 ?_;(with_reducible refine(aDh.calls aE _ _ aC a1 true _ ?side1 ?side2 A6.out).mono ?_);(case side1=>exact zz7);(case side2=>exact bY.out);rintro e w15 ⟨rfl,hb⟩;refine⟨_,rfl,?_⟩;have n_:=zA2 (aA4 (g:=aD) (o:=.cells #[.int .i64 aE,.slice aQ aC.length aG] 25 (0,0)) zz0 hb) (aA3 zz1 hb);clear aA HB;obtain⟨aA,HB⟩:=n_;clear hb;have n7:=aCg aA;have n5:=aCf aA;have nT:=aA0 aA.out 0;have nS:=aA0 aA.out 1)|(go_at_call 113;(with_reducible refine(aDh.calls aE _ _ aC a2 false _ ?side1 ?side2 A8.out).mono ?_);(case side1=>exact zz7);(case side2=>exact bY.out);rintro e w17 ⟨rfl,hb⟩;have n_:=zA2 (aA4 (g:=aD) (o:=.cells #[.int .i64 aE,.slice aQ aC.length aG] 25 (0,0)) zz0 hb) (aA3 zz1 hb);clear aA HB;obtain⟨aA,HB⟩:=n_;(try clear hb);(try clear hb2);(try clear hk);(try clear hi))));(go_meet);case rel=>exact⟨_,(true),zz5,H',⟨by first|omega|exact Nat.le_refl _⟩,⟨zz0⟩,⟨zz1⟩⟩
 case rest =>
  clear HC4;(try clear c1);(try clear p2);(try clear c7);(try clear c9);(try clear c11);(try clear eE);(try clear eD);(try clear kP);(try clear kO);(try clear iO);(try clear iN);(try clear n7);(try clear n5);(try clear pQ);(try clear pP);(try clear eB);(try clear d9);(try clear kL);(try clear kK);(try clear iM);(try clear iL);(try clear nT);(try clear nS);(try clear pE);(try clear pD);obtain⟨kq,rR,rfl,HA,HJ3,aA,HB⟩:=hcut
  cases kq with
  | zero=>exact absurd HA.out (by simp[aAe.j0])
  | succ kj3 =>
   have H:=HA.out;clear HA;simp only[aAe.j0]at H;by_cases c20:rR=true
   ·subst c20;rw[if_pos rfl]at H;obtain rfl:=zdI H;go_wp2;go_ret;exact⟨zz9,zz1⟩
   replace c20:=zdB c20;subst c20;rw[if_neg (show ¬ (false=true) by decide)]at H;have H':=zK_ H;clear H;have f5:=aCg aA;have f4:=aCf aA;have fY:=aA0 aA.out 0;have fX:=aA0 aA.out 1;go_wp2;(go_loopg [7,28] kj3 (λkq v7 v28 w'=>∃ (jF:Int) (dU:Int),v7 = .int .i64 jF/\v28 = .int .i64 dU/\aA1 (aAe.l0 kq a1 a2 jF aC (aC.length:Int) dU=some r)/\aA1 (kq<=kj3)/\aA1 (w'.heap[aD]? = some (.cells #[.int .i64 aE,(.slice aQ aC.length aG)] 25 (0,0)))/\aA1 (Below w.heap.size w w')));case atStart=>exact⟨(0),(0),zz5,zz5,H',⟨Nat.le_refl _⟩,⟨zz0⟩,⟨zz1⟩⟩
   case round =>
    clear H';(try clear c1);(try clear c2);(try clear p2);(try clear c7);(try clear c9);(try clear c11);(try clear c20);(try clear eE);(try clear eD);(try clear kP);(try clear kO);(try clear iO);(try clear iN);(try clear n7);(try clear n5);(try clear pQ);(try clear pP);(try clear f5);(try clear f4);(try clear eB);(try clear d9);(try clear kL);(try clear kK);(try clear iM);(try clear iL);(try clear nT);(try clear nS);(try clear pE);(try clear pD);(try clear fY);(try clear fX);(try clear p2);obtain⟨jF,dU,rfl,rfl,HA,HK2,aA,HB⟩:=hrel
    cases gk with
    | zero=>exact absurd HA.out (by simp[aAe.l0])
    | succ k2 =>
     have H:=HA.out;clear HA;simp only[aAe.l0]at H;by_cases c22:dU<(aC.length:Int);rotate_left
     ·rw[if_neg c22]at H;have sS:=zdN c22;clear c22;obtain rfl:=zdI H;go_wp2;go_ret;exact⟨zz9,zz1⟩
     rw[if_pos c22]at H;have sS:=zdY c22;clear c22;by_cases c23:0<=dU;rotate_left
     ·rw[if_neg c23]at H;exact absurd H (by simp)
     rw[if_pos c23]at H;have xN:=zdY c23;clear c23;by_cases c24:dU<(aC.length:Int);rotate_left
     ·rw[if_neg c24]at H;exact absurd H (by simp)
     rw[if_pos c24]at H;have uF:=zdY c24;clear c24;obtain⟨rH,tS⟩:∃ j_:Int,(mn a1 a2)=j_:=⟨_,rfl⟩;(replace H:(if((aA2 aC dU).f0)=(rH) then(if((aA2 aC dU).f1)=(mx a1 a2) then(aAe.l0 k2 a1 a2 (wrap64 (jF+1)) aC (aC.length:Int) (wrap64 (dU+1))) else(aAe.l0 k2 a1 a2 jF aC (aC.length:Int) (wrap64 (dU+1)))) else(aAe.l0 k2 a1 a2 jF aC (aC.length:Int) (wrap64 (dU+1))))=some r:=by first|(rw[tS]at H;exact H)|(simp only[tS]at H ⊢;exact H));have J5:(if a2<a1 then a2 else a1)=rH:=tS;by_cases c26:((aA2 aC dU).f0)=(rH);rotate_left
     ·rw[if_neg c26]at H;have D5:(((aA2 aC dU).f0)==(rH))=false:=beq_eq_false_iff_ne.mpr c26;have D4:(((aA2 aC dU).f0) != (rH))=true:=bne_iff_ne.mpr c26;have H':=zK_ H;clear H;have aJi:0<=(dU:Int):=zdT zz4;have aJg:dU<(aC.length:Int):=zdT zz4;obtain⟨i5,aSm,dQ,gZ⟩:=aDi b7.out dU aJi aJg;cases aSm;replace dQ:=(HB.out.cell (World.block_lt_of_cell? w _ dQ)).trans dQ;replace gZ:=(HB.out.cell (World.block_lt_of_cell? w _ gZ)).trans gZ;replace aJi:=eq_true aJi;replace aJg:=eq_true aJg;(go_wp2_with (first|((with_reducible refine aAw (N:=9) rfl ?_);(try(refine aBu (by rfl) ?_;dsimp only));refine aAq ?hg (N:=9) ?hd (cs:=#[.int .i64 0,.int .i64 0]) (t:=73) ?hr ?_;(case hd=>rfl);(case hg=>rfl);(case hr=>exact aDq);intro dY hg w35 hbox hb;have n_:=zA7 (aA4 (g:=aD) (o:=.cells #[.int .i64 aE,.slice (some i5) aC.length aG] 25 (0,0)) zz0 hb) (aA3 zz1 hb) hbox (aFb:w.heap.size<=dY) (aFb:w.heap.size<=dY) (by rw[hg];exact Nat.ne_of_lt (aCi (g:=aD) (o:=.cells #[.int .i64 aE,.slice (some i5) aC.length aG] 25 (0,0)) zz0):aD≠dY) (by rw[hg];exact Nat.ne_of_gt (aCi (g:=aD) (o:=.cells #[.int .i64 aE,.slice (some i5) aC.length aG] 25 (0,0)) zz0):dY≠aD);clear aA HB;obtain⟨aA,HB,bD,bBx,aVm,eI,fH⟩:=n_;clear hb hbox hg;have xF:=fH.out;have xB:=eI.out;have nX:=aCg bD;have nW:=aCf bD;have nN:=aA0 bD.out 0;have nM:=aA0 bD.out 1)));go_roundg k2;(case measure=>have:=HJ3.out;have:=HK2.out;omega);case rel=>exact⟨(jF),(wrap64 (dU+1)),zz5,zz5,H',⟨aKq⟩,⟨bGf⟩,⟨aZn⟩⟩
     rw[if_pos c26]at H;have D5:(((aA2 aC dU).f0)==(rH))=true:=beq_iff_eq.mpr c26;have D4:(((aA2 aC dU).f0) != (rH))=false:=bne_eq_false_iff_eq.mpr c26;clear c26;obtain⟨rG,tR⟩:∃ j_:Int,(mx a1 a2)=j_:=⟨_,rfl⟩;(replace H:(if((aA2 aC dU).f1)=(rG) then(aAe.l0 k2 a1 a2 (wrap64 (jF+1)) aC (aC.length:Int) (wrap64 (dU+1))) else(aAe.l0 k2 a1 a2 jF aC (aC.length:Int) (wrap64 (dU+1))))=some r:=by first|(rw[tR]at H;exact H)|(simp only[tR]at H ⊢;exact H));have J4:(if a1<a2 then a2 else a1)=rG:=tR;by_cases c28:((aA2 aC dU).f1)=(rG);rotate_left
     ·rw[if_neg c28]at H;have sR:(((aA2 aC dU).f1)==(rG))=false:=beq_eq_false_iff_ne.mpr c28;have uE:(((aA2 aC dU).f1) != (rG))=true:=bne_iff_ne.mpr c28;have H':=zK_ H;clear H;have aJi:0<=(dU:Int):=zdT zz4;have aJg:dU<(aC.length:Int):=zdT zz4;obtain⟨i5,aSm,dQ,gZ⟩:=aDi b7.out dU aJi aJg;cases aSm;replace dQ:=(HB.out.cell (World.block_lt_of_cell? w _ dQ)).trans dQ;replace gZ:=(HB.out.cell (World.block_lt_of_cell? w _ gZ)).trans gZ;replace aJi:=eq_true aJi;replace aJg:=eq_true aJg;(go_wp2_with (first|((with_reducible refine aAw (N:=9) rfl ?_);(try(refine aBu (by rfl) ?_;dsimp only));refine aAq ?hg (N:=9) ?hd (cs:=#[.int .i64 0,.int .i64 0]) (t:=73) ?hr ?_;(case hd=>rfl);(case hg=>rfl);(case hr=>exact aDq);intro dY hg w32 hbox hb;have n_:=zA7 (aA4 (g:=aD) (o:=.cells #[.int .i64 aE,.slice (some i5) aC.length aG] 25 (0,0)) zz0 hb) (aA3 zz1 hb) hbox (aFb:w.heap.size<=dY) (aFb:w.heap.size<=dY) (by rw[hg];exact Nat.ne_of_lt (aCi (g:=aD) (o:=.cells #[.int .i64 aE,.slice (some i5) aC.length aG] 25 (0,0)) zz0):aD≠dY) (by rw[hg];exact Nat.ne_of_gt (aCi (g:=aD) (o:=.cells #[.int .i64 aE,.slice (some i5) aC.length aG] 25 (0,0)) zz0):dY≠aD);clear aA HB;obtain⟨aA,HB,bD,bBx,aVm,eI,fH⟩:=n_;clear hb hbox hg;have OE:=fH.out;have M9:=eI.out;have GX:=aCg bD;have GW:=aCf bD;have FX:=aA0 bD.out 0;have FW:=aA0 bD.out 1)));go_roundg k2;(case measure=>have:=HJ3.out;have:=HK2.out;omega);case rel=>exact⟨(jF),(wrap64 (dU+1)),zz5,zz5,H',⟨aKq⟩,⟨bGf⟩,⟨aZn⟩⟩
     rw[if_pos c28]at H;have sR:(((aA2 aC dU).f1)==(rG))=true:=beq_iff_eq.mpr c28;have uE:(((aA2 aC dU).f1) != (rG))=false:=bne_eq_false_iff_eq.mpr c28;clear c28;have H':=zK_ H;clear H;have aJi:0<=(dU:Int):=zdT zz4;have aJg:dU<(aC.length:Int):=zdT zz4;obtain⟨i5,aSm,dQ,gZ⟩:=aDi b7.out dU aJi aJg;cases aSm;replace dQ:=(HB.out.cell (World.block_lt_of_cell? w _ dQ)).trans dQ;replace gZ:=(HB.out.cell (World.block_lt_of_cell? w _ gZ)).trans gZ;replace aJi:=eq_true aJi;replace aJg:=eq_true aJg;(go_wp2_with (first|((with_reducible refine aAw (N:=9) rfl ?_);(try(refine aBu (by rfl) ?_;dsimp only));refine aAq ?hg (N:=9) ?hd (cs:=#[.int .i64 0,.int .i64 0]) (t:=73) ?hr ?_;(case hd=>rfl);(case hg=>rfl);(case hr=>exact aDq);intro dY hg w29 hbox hb;have n_:=zA7 (aA4 (g:=aD) (o:=.cells #[.int .i64 aE,.slice (some i5) aC.length aG] 25 (0,0)) zz0 hb) (aA3 zz1 hb) hbox (aFb:w.heap.size<=dY) (aFb:w.heap.size<=dY) (by rw[hg];exact Nat.ne_of_lt (aCi (g:=aD) (o:=.cells #[.int .i64 aE,.slice (some i5) aC.length aG] 25 (0,0)) zz0):aD≠dY) (by rw[hg];exact Nat.ne_of_gt (aCi (g:=aD) (o:=.cells #[.int .i64 aE,.slice (some i5) aC.length aG] 25 (0,0)) zz0):dY≠aD);clear aA HB;obtain⟨aA,HB,bD,bBx,aVm,eI,fH⟩:=n_;clear hb hbox hg;have AE:=fH.out;have zS:=eI.out;have pI:=aCg bD;have pH:=aCf bD;have o5:=aA0 bD.out 0;have o4:=aA0 bD.out 1)));go_roundg k2;(case measure=>have:=HJ3.out;have:=HK2.out;omega);case rel=>exact⟨(wrap64 (jF+1)),(wrap64 (dU+1)),zz5,zz5,H',⟨aKq⟩,⟨bGf⟩,⟨aZn⟩⟩
def aCj.f (a0:Int) (a1:Int) (a2:Int):Option (Bool):=if a0≥a1 then(some (decide (a0<=a2))) else(some false)
theorem aCj.calls (a0:Int) (a1:Int) (a2:Int) (r:Bool) (w:World) (h:aCj.f a0 a1 a2=some r) :
  Calls Try.prog 114 #[.int .i64 a0,.int .i64 a1,.int .i64 a2] w λe w'=>e = .returned (.bool r)/\aB8 w w':=by
 have H:(if a0≥a1 then(some (decide (a0<=a2))) else(some false))=some r:=h;clear h;by_cases c4:a0≥a1
 ·rw[if_pos c4]at H;have iI:decide (a1<=a0)=true:=zdY c4;clear c4;obtain rfl:=zdI H;go_enter Try.func114,Try.ntmps114;go_wp2;go_ret;exact⟨zz5,by repeat(first|exact aB8.refl _|apply aB8.step)⟩
 rw[if_neg c4]at H;have iI:decide (a1<=a0)=false:=zdN c4;clear c4;obtain rfl:=zdI H;go_enter Try.func114,Try.ntmps114;go_wp2;go_ret;exact⟨zz5,by repeat(first|exact aB8.refl _|apply aB8.step)⟩
mutual
def aB9.j0:Nat->Bool->Int->List (S73)->Option (Bool)
 | 0,_,_,_=>none
 | k+1,oO,aU,aM=>if oO=true then(some false) else(aB9.l0 k aM (aM.length:Int) 0 aU aM)
def aB9.l0:Nat->List (S73)->Int->Int->Int->List (S73)->Option (Bool)
 | 0,_,_,_,_,_=>none
 | k+1,lZ,kW,kR,aU,aM=>if kR<kW then(if 0<=kR then(if kR<(lZ.length:Int) then((aCj.f ((aA2 lZ kR).f0) 0 (wrap64 (aU-1))).bind λeG=>(if eG=true then((aCj.f ((aA2 lZ kR).f1) (wrap64 (((aA2 lZ kR).f0)+1)) (wrap64 (aU-1))).bind λb3=>(if b3=true then(aB9.l0 k lZ kW (wrap64 (kR+1)) aU aM) else(some false))) else(some false))) else(none)) else(none)) else(some true)
end
def aB9.f (k:Nat) (aE:Int) (aC:List (S73)):Option (Bool):=(aCj.f aE 1 6).bind λaX=>(if aX=true then(aB9.j0 k (decide ((aC.length:Int)>12)) aE aC) else(aB9.j0 k true aE aC))
theorem aB9.aBa:∀ k,(∀ y0 y1 y2,LeO (aB9.j0 k y0 y1 y2) (aB9.j0 (k+1) y0 y1 y2))/\(∀ y0 y1 y2 y3 y4,LeO (aB9.l0 k y0 y1 y2 y3 y4) (aB9.l0 (k+1) y0 y1 y2 y3 y4))
 | 0=>⟨λ_ _ _ r h=>by simp[aB9.j0]at h,λ_ _ _ _ _ r h=>by simp[aB9.l0]at h⟩
 | k+1=>by
  obtain⟨ih0,ih1⟩:=aB9.aBa k
  refine⟨?_,?_⟩
  ·intro y0 y1 y2
   unfold aB9.j0
   exact zm1
  ·intro y0 y1 y2 y3 y4
   unfold aB9.l0
   exact zm1
theorem aB9.mono:∀ a0 a1 k,LeO (aB9.f k a0 a1) (aB9.f (k+1) a0 a1):=by
 intro a0 a1 k;obtain⟨ih0,ih1⟩:=aB9.aBa k;unfold aB9.f;exact zm1
theorem aB9.calls (k:Nat) (aE:Int) (aQ:Option Addr) (aG:Nat) (aC:List (S73)) (r:Bool) (w:World) (hr0_1:Kd.C k73 w aQ aC.length aC) (hc0_1:aC.length<=aG) (h:aB9.f k aE aC=some r) :
  Calls Try.prog 88 #[.agg #[.int .i64 aE,.slice aQ aC.length aG]] w λe w'=>e = .returned (.bool r)/\Below w.heap.size w w':=by
 have aIh:=Try.underlying25;have aUl:=Try.underlying73;have b7:=zK_ hr0_1;have bY:=zK_ hc0_1;clear hr0_1 hc0_1;have HB:=zK_ (Below.refl w.heap.size w);have H:((aCj.f aE 1 6).bind λaX=>(if aX=true then(aB9.j0 k (decide ((aC.length:Int)>12)) aE aC) else(aB9.j0 k true aE aC)))=some r:=h;clear h;have HC2:=zK_ H;clear H;go_enter Try.func88,Try.ntmps88;(go_upto_region 1 with (first|((with_reducible refine aAw (N:=1) rfl ?_);(try(refine aBu (by rfl) ?_;dsimp only));refine aAq ?hg (N:=1) ?hd (cs:=#[.int .i64 aE,.slice aQ aC.length aG]) (t:=25) ?hr ?_;(case hd=>rfl);(case hg=>rfl);(case hr=>exact aDq);intro aD hg w3 hbox hb;have n_:=zA4 (aA3 zz2 hb) hbox (aE1:w.heap.size<=aD) (aE1:w.heap.size<=aD);clear HB;obtain⟨HB,aA,aDt,aDe⟩:=n_;clear hb hbox hg)));(try simp only[Act.put,List.setIfInBounds_toArray,List.set_cons_zero,List.set_cons_succ]);go_cut [14] (λv14 wc=>∃ (kq:Nat) (dK:Bool),v14 = .bool dK/\aA1 (aB9.j0 kq dK aE aC=some r)/\aA1 (kq<=k)/\aA1 (wc.heap[aD]? = some (.cells #[.int .i64 aE,(.slice aQ aC.length aG)] 25 (0,0)))/\aA1 (Below w.heap.size w wc))
 case first =>
  have H:=HC2.out;clear HC2;obtain⟨aX,A40,H⟩:=zO_ H;(try dsimp only at H);have A4:=zK_ A40;clear A40;by_cases c5:aX=true
  ·subst c5;rw[if_pos rfl]at H;have H':=zK_ H;clear H;have jK:=aCg aA;have jJ:=aCf aA;have jI:=aA0 aA.out 0;have jH:=aA0 aA.out 1;(go_wp2_with (first|((with_reducible refine aAa (f:=114) rfl ?_);refine aBg (some 7) rfl rfl Try.func114 (by kernel_rfl) rfl #[.int .i64 aE,.int .i64 1,.int .i64 6] rfl zz3 ?_;(with_reducible refine(aCj.calls aE 1 6 true _ A4.out).mono ?_);rintro e w' ⟨rfl,⟨nd,rfl⟩⟩;refine⟨_,rfl,?_⟩)));(go_meet);case rel=>exact⟨_,(decide ((aC.length:Int)>12)),zz5,H',⟨by first|omega|exact Nat.le_refl _⟩,⟨zz0⟩,⟨zz1⟩⟩
  replace c5:=zdB c5;subst c5;rw[if_neg (show ¬ (false=true) by decide)]at H;have H':=zK_ H;clear H;have iH:=aCg aA;have iG:=aCf aA;have iF:=aA0 aA.out 0;have iE:=aA0 aA.out 1;(go_wp2_with (first|((with_reducible refine aAa (f:=114) rfl ?_);refine aBg (some 7) rfl rfl Try.func114 (by kernel_rfl) rfl #[.int .i64 aE,.int .i64 1,.int .i64 6] rfl zz3 ?_;(with_reducible refine(aCj.calls aE 1 6 false _ A4.out).mono ?_);rintro e w' ⟨rfl,⟨nd,rfl⟩⟩;refine⟨_,rfl,?_⟩)));(go_meet);case rel=>exact⟨_,(true),zz5,H',⟨by first|omega|exact Nat.le_refl _⟩,⟨zz0⟩,⟨zz1⟩⟩
 case rest =>
  clear HC2;(try clear c1);(try clear p2);(try clear c5);(try clear jK);(try clear jJ);(try clear iH);(try clear iG);(try clear jI);(try clear jH);(try clear iF);(try clear iE);obtain⟨kq,dK,rfl,HA,HJ1,aA,HB⟩:=hcut
  cases kq with
  | zero=>exact absurd HA.out (by simp[aB9.j0])
  | succ kj1 =>
   have H:=HA.out;clear HA;simp only[aB9.j0]at H;by_cases c8:dK=true
   ·subst c8;rw[if_pos rfl]at H;obtain rfl:=zdI H;go_wp2;go_ret;exact⟨zz9,zz1⟩
   replace c8:=zdB c8;subst c8;rw[if_neg (show ¬ (false=true) by decide)]at H;have H':=zK_ H;clear H;have iZ:=aCg aA;have iY:=aCf aA;have iX:=aA0 aA.out 0;have iW:=aA0 aA.out 1;go_wp2;(go_loopg [18] kj1 (λkq v18 w'=>∃ (cE:Int),v18 = .int .i64 cE/\aA1 (aB9.l0 kq aC (aC.length:Int) cE aE aC=some r)/\aA1 (kq<=kj1)/\aA1 (w'.heap[aD]? = some (.cells #[.int .i64 aE,(.slice aQ aC.length aG)] 25 (0,0)))/\aA1 (Below w.heap.size w w')));case atStart=>exact⟨(0),zz5,H',⟨Nat.le_refl _⟩,⟨zz0⟩,⟨zz1⟩⟩
   case round =>
    clear H';(try clear c1);(try clear p2);(try clear c5);(try clear c8);(try clear jK);(try clear jJ);(try clear iH);(try clear iG);(try clear iZ);(try clear iY);(try clear jI);(try clear jH);(try clear iF);(try clear iE);(try clear iX);(try clear iW);(try clear p2);obtain⟨cE,rfl,HA,HK2,aA,HB⟩:=hrel
    cases gk with
    | zero=>exact absurd HA.out (by simp[aB9.l0])
    | succ k2 =>
     have H:=HA.out;clear HA;simp only[aB9.l0]at H;by_cases c10:cE<(aC.length:Int);rotate_left
     ·rw[if_neg c10]at H;have gN:=zdN c10;clear c10;obtain rfl:=zdI H;go_wp2;go_ret;exact⟨zz9,zz1⟩
     rw[if_pos c10]at H;have gN:=zdY c10;clear c10;by_cases c11:0<=cE;rotate_left
     ·rw[if_neg c11]at H;exact absurd H (by simp)
     rw[if_pos c11]at H;have oU:=zdY c11;clear c11;by_cases c12:cE<(aC.length:Int);rotate_left
     ·rw[if_neg c12]at H;exact absurd H (by simp)
     rw[if_pos c12]at H;have oT:=zdY c12;clear c12;obtain⟨eG,bJp,H⟩:=zO_ H;(try dsimp only at H);have A13:=zK_ bJp;clear bJp;by_cases c14:eG=true;rotate_left
     ·replace c14:=zdB c14;subst c14;rw[if_neg (show ¬ (false=true) by decide)]at H;obtain rfl:=zdI H;have aF6:0<=(cE:Int):=zdT zz4;have aF5:cE<(aC.length:Int):=zdT zz4;obtain⟨bW,aJ1,bJ,bT⟩:=aDi b7.out cE aF6 aF5;cases aJ1;replace bJ:=(HB.out.cell (World.block_lt_of_cell? w _ bJ)).trans bJ;replace bT:=(HB.out.cell (World.block_lt_of_cell? w _ bT)).trans bT;replace aF6:=eq_true aF6;replace aF5:=eq_true aF5;(go_wp2_with (first|((with_reducible refine aAw (N:=4) rfl ?_);(try(refine aBu (by rfl) ?_;dsimp only));refine aAq ?hg (N:=4) ?hd (cs:=#[.int .i64 0,.int .i64 0]) (t:=73) ?hr ?_;(case hd=>rfl);(case hg=>rfl);(case hr=>exact aDq);intro bC hg w25 hbox hb;have n_:=zA7 (aA4 (g:=aD) (o:=.cells #[.int .i64 aE,.slice (some bW) aC.length aG] 25 (0,0)) zz0 hb) (aA3 zz1 hb) hbox (aFb:w.heap.size<=bC) (aFb:w.heap.size<=bC) (aSw:aD≠bC) (aSv:bC≠aD);clear aA HB;obtain⟨aA,HB,bK,aLs,aK7,cD,cI⟩:=n_;clear hb hbox hg;have AI:=cI.out;have zX:=cD.out;have pK:=aCg bK;have pJ:=aCf bK;have o7:=aA0 bK.out 0;have o6:=aA0 bK.out 1;have sL:=aCg aA;have sK:=aCf aA;have sD:=aA0 aA.out 0;have sC:=aA0 aA.out 1)|((with_reducible refine aAa (f:=114) rfl ?_);refine aBg (some 27) rfl rfl Try.func114 (by kernel_rfl) rfl #[.int .i64 ((aA2 aC cE).f0),.int .i64 0,.int .i64 (wrap64 (aE-1))] rfl zz3 ?_;(with_reducible refine(aCj.calls ((aA2 aC cE).f0) 0 (wrap64 (aE-1)) false _ A13.out).mono ?_);rintro e w' ⟨rfl,⟨nd,rfl⟩⟩;refine⟨_,rfl,?_⟩)));go_ret;exact⟨zz9,aNs⟩
     subst c14;rw[if_pos rfl]at H;obtain⟨b3,aZ5,H⟩:=zO_ H;(try dsimp only at H);have A15:=zK_ aZ5;clear aZ5;by_cases c16:b3=true;rotate_left
     ·replace c16:=zdB c16;subst c16;rw[if_neg (show ¬ (false=true) by decide)]at H;obtain rfl:=zdI H;have aF6:0<=(cE:Int):=zdT zz4;have aF5:cE<(aC.length:Int):=zdT zz4;obtain⟨bW,aJ1,bJ,bT⟩:=aDi b7.out cE aF6 aF5;cases aJ1;replace bJ:=(HB.out.cell (World.block_lt_of_cell? w _ bJ)).trans bJ;replace bT:=(HB.out.cell (World.block_lt_of_cell? w _ bT)).trans bT;replace aF6:=eq_true aF6;replace aF5:=eq_true aF5;(go_wp2_with (first|((with_reducible refine aAw (N:=4) rfl ?_);(try(refine aBu (by rfl) ?_;dsimp only));refine aAq ?hg (N:=4) ?hd (cs:=#[.int .i64 0,.int .i64 0]) (t:=73) ?hr ?_;(case hd=>rfl);(case hg=>rfl);(case hr=>exact aDq);intro bC hg w21 hbox hb;have n_:=zA7 (aA4 (g:=aD) (o:=.cells #[.int .i64 aE,.slice (some bW) aC.length aG] 25 (0,0)) zz0 hb) (aA3 zz1 hb) hbox (aFb:w.heap.size<=bC) (aFb:w.heap.size<=bC) (aSw:aD≠bC) (aSv:bC≠aD);clear aA HB;obtain⟨aA,HB,bK,aLs,aK7,cD,cI⟩:=n_;clear hb hbox hg;have tL:=cI.out;have tK:=cD.out;have gK:=aCg bK;have gJ:=aCf bK;have gI:=aA0 bK.out 0;have gH:=aA0 bK.out 1;have n4:=aCg aA;have n0:=aCf aA;have nR:=aA0 aA.out 0;have nQ:=aA0 aA.out 1)|((with_reducible refine aAa (f:=114) rfl ?_);refine aBg (some 27) rfl rfl Try.func114 (by kernel_rfl) rfl #[.int .i64 ((aA2 aC cE).f0),.int .i64 0,.int .i64 (wrap64 (aE-1))] rfl zz3 ?_;(with_reducible refine(aCj.calls ((aA2 aC cE).f0) 0 (wrap64 (aE-1)) true _ A13.out).mono ?_);rintro e w' ⟨rfl,⟨nd,rfl⟩⟩;refine⟨_,rfl,?_⟩)|(go_at_call 114;(with_reducible refine(aCj.calls ((aA2 aC cE).f1) (wrap64 (((aA2 aC cE).f0)+1)) (wrap64 (aE-1)) false _ A15.out).mono ?_);rintro e w' ⟨rfl,⟨nd,rfl⟩⟩)));go_ret;exact⟨zz9,aNs⟩
     subst c16;rw[if_pos rfl]at H;have H':=zK_ H;clear H;have aF6:0<=(cE:Int):=zdT zz4;have aF5:cE<(aC.length:Int):=zdT zz4;obtain⟨bW,aJ1,bJ,bT⟩:=aDi b7.out cE aF6 aF5;cases aJ1;replace bJ:=(HB.out.cell (World.block_lt_of_cell? w _ bJ)).trans bJ;replace bT:=(HB.out.cell (World.block_lt_of_cell? w _ bT)).trans bT;replace aF6:=eq_true aF6;replace aF5:=eq_true aF5;(go_wp2_with (first|((with_reducible refine aAw (N:=4) rfl ?_);(try(refine aBu (by rfl) ?_;dsimp only));refine aAq ?hg (N:=4) ?hd (cs:=#[.int .i64 0,.int .i64 0]) (t:=73) ?hr ?_;(case hd=>rfl);(case hg=>rfl);(case hr=>exact aDq);intro bC hg w17 hbox hb;have n_:=zA7 (aA4 (g:=aD) (o:=.cells #[.int .i64 aE,.slice (some bW) aC.length aG] 25 (0,0)) zz0 hb) (aA3 zz1 hb) hbox (aFb:w.heap.size<=bC) (aFb:w.heap.size<=bC) (aSw:aD≠bC) (aSv:bC≠aD);clear aA HB;obtain⟨aA,HB,bK,aLs,aK7,cD,cI⟩:=n_;clear hb hbox hg;have qB:=cI.out;have qA:=cD.out;have jS:=aCg bK;have jR:=aCf bK;have jQ:=aA0 bK.out 0;have jP:=aA0 bK.out 1;have pO:=aCg aA;have pN:=aCf aA;have pC:=aA0 aA.out 0;have pA:=aA0 aA.out 1)|((with_reducible refine aAa (f:=114) rfl ?_);refine aBg (some 27) rfl rfl Try.func114 (by kernel_rfl) rfl #[.int .i64 ((aA2 aC cE).f0),.int .i64 0,.int .i64 (wrap64 (aE-1))] rfl zz3 ?_;(with_reducible refine(aCj.calls ((aA2 aC cE).f0) 0 (wrap64 (aE-1)) true _ A13.out).mono ?_);rintro e w' ⟨rfl,⟨nd,rfl⟩⟩;refine⟨_,rfl,?_⟩)|(go_at_call 114;(with_reducible refine(aCj.calls ((aA2 aC cE).f1) (wrap64 (((aA2 aC cE).f0)+1)) (wrap64 (aE-1)) true _ A15.out).mono ?_);rintro e w' ⟨rfl,⟨nd,rfl⟩⟩)));go_roundg k2;(case measure=>have:=HJ1.out;have:=HK2.out;omega);case rel=>exact⟨(wrap64 (cE+1)),zz5,H',⟨by have:=HJ1.out;have:=HK2.out;omega⟩,⟨aZi⟩,⟨aNs⟩⟩
def aBc.l0:Nat->Int->List Int->Int->Int->Option (Bool)
 | 0,_,_,_,_=>none
 | k+1,x1,x7,x8,x9=>if x9<x8 then(if 0<=x9 then(if x9<(x7.length:Int) then(if(rd x7 x9)=x1 then(some true) else(aBc.l0 k x1 x7 x8 (wrap64 (x9+1)))) else(none)) else(none)) else(some false)
def aBc.f (k:Nat) (l0:List Int) (a1:Int):Option (Bool):=aBc.l0 k a1 l0 (l0.length:Int) 0
theorem aBc.aBa:∀ k,(∀ y0 y1 y2 y3,LeO (aBc.l0 k y0 y1 y2 y3) (aBc.l0 (k+1) y0 y1 y2 y3))
 | 0=>λ_ _ _ _ r h=>by simp[aBc.l0]at h
 | k+1=>by
  have ih0:=aBc.aBa k
  ·intro y0 y1 y2 y3
   unfold aBc.l0
   exact zm0
theorem aBc.mono:∀ a0 a1 k,LeO (aBc.f k a0 a1) (aBc.f (k+1) a0 a1):=by
 intro a0 a1 k;have ih0:=aBc.aBa k;unfold aBc.f;exact zm0
theorem aBc.calls (k:Nat) (A0:Option Addr) (c0:Nat) (l0:List Int) (a1:Int) (r:Bool) (w:World) (hr0:Kd.C (Kd.int .i64) w A0 l0.length l0) (hc0:l0.length<=c0) (h:aBc.f k l0 a1=some r) :
  Calls Try.prog 115 #[.slice A0 l0.length c0,.int .i64 a1] w λe w'=>e = .returned (.bool r)/\aB8 w w':=by
 have HR0:=zK_ hr0;have HC0:=zK_ hc0;clear hr0 hc0;have H:(aBc.l0 k a1 l0 (l0.length:Int) 0)=some r:=h;clear h;have H':=zK_ H;clear H;go_enter Try.func115,Try.ntmps115;go_wp2;(go_loopg [9] k (λkq v9 w'=>∃ (b8:Int),v9 = .int .i64 b8/\aA1 (aBc.l0 kq a1 l0 (l0.length:Int) b8=some r)/\aA1 (kq<=k)/\aB8 w w'));case atStart=>exact⟨(0),zz5,H',⟨Nat.le_refl _⟩,by repeat(first|exact aB8.refl _|apply aB8.step)⟩
 case round =>
  clear H';(try clear c1);(try clear p2);obtain⟨b8,rfl,HA,HK1,⟨m1,rfl⟩⟩:=hrel
  cases gk with
  | zero=>exact absurd HA.out (by simp[aBc.l0])
  | succ k1 =>
   have H:=HA.out;clear HA;simp only[aBc.l0]at H;by_cases c3:b8<(l0.length:Int);rotate_left
   ·rw[if_neg c3]at H;have i4:=zdN c3;clear c3;obtain rfl:=zdI H;go_wp2;go_ret;exact⟨zz5,by repeat(first|exact aB8.refl _|apply aB8.step)⟩
   rw[if_pos c3]at H;have i4:=zdY c3;clear c3;by_cases c4:0<=b8;rotate_left
   ·rw[if_neg c4]at H;exact absurd H (by simp)
   rw[if_pos c4]at H;have iI:=zdY c4;clear c4;by_cases c5:b8<(l0.length:Int);rotate_left
   ·rw[if_neg c5]at H;exact absurd H (by simp)
   rw[if_pos c5]at H;have fL:=zdY c5;clear c5;by_cases c6:(rd l0 b8)=a1
   ·rw[if_pos c6]at H;have iT:((rd l0 b8)==a1)=true:=beq_iff_eq.mpr c6;have nI:((rd l0 b8) != a1)=false:=bne_eq_false_iff_eq.mpr c6;clear c6;obtain rfl:=zdI H;have aE0:0<=(b8:Int):=zdT zz4;have aDz:b8<(l0.length:Int):=zdT zz4;obtain⟨fC,aG5,bU⟩:=Kd.aCz HR0.out b8 aE0 aDz;cases aG5;replace aE0:=eq_true aE0;replace aDz:=eq_true aDz;go_wp2;go_ret;exact⟨zz5,by repeat(first|exact aB8.refl _|apply aB8.step)⟩
   rw[if_neg c6]at H;have iT:((rd l0 b8)==a1)=false:=beq_eq_false_iff_ne.mpr c6;have nI:((rd l0 b8) != a1)=true:=bne_iff_ne.mpr c6;have H':=zK_ H;clear H;have aE0:0<=(b8:Int):=zdT zz4;have aDz:b8<(l0.length:Int):=zdT zz4;obtain⟨fC,aG5,bU⟩:=Kd.aCz HR0.out b8 aE0 aDz;cases aG5;replace aE0:=eq_true aE0;replace aDz:=eq_true aDz;go_wp2;go_roundg k1;(case measure=>have:=HK1.out;omega);case rel=>exact⟨(wrap64 (b8+1)),zz5,H',⟨aFc⟩,by repeat(first|exact aB8.refl _|apply aB8.step)⟩
mutual
def aAh.l0:Nat->List Int->Int->Int->List (S73)->Option (List Int)
 | 0,_,_,_,_=>none
 | k+1,x3,x4,aU,aM=>if x4<(x3.length:Int) then(aAh.l1 k x3 x4 aM (aM.length:Int) 0 aU aM) else(some x3)
def aAh.l1:Nat->List Int->Int->List (S73)->Int->Int->Int->List (S73)->Option (List Int)
 | 0,_,_,_,_,_,_,_=>none
 | k+1,x3,x4,mL,lZ,kW,aU,aM=>if kW<lZ then(if 0<=kW then(if kW<(mL.length:Int) then(if 0<=x4 then(if x4<(x3.length:Int) then(if((aA2 mL kW).f0)=(rd x3 x4) then((aBc.f k x3 ((aA2 mL kW).f1)).bind λfE=>(aAh.j2 k x3 x4 mL lZ kW (!fE) aU aM ((aA2 mL kW).f0) ((aA2 mL kW).f1))) else(aAh.j2 k x3 x4 mL lZ kW false aU aM ((aA2 mL kW).f0) ((aA2 mL kW).f1))) else(none)) else(none)) else(none)) else(none)) else(aAh.l0 k x3 (wrap64 (x4+1)) aU aM)
def aAh.j2:Nat->List Int->Int->List (S73)->Int->Int->Bool->Int->List (S73)->Int->Int->Option (List Int)
 | 0,_,_,_,_,_,_,_,_,_,_=>none
 | k+1,x3,x4,mL,lZ,kW,PM,aU,aM,fD,fT=>if PM=true then(if x3.length<17592186044416 then((some (x3++[fT]:List Int)).bind λcX=>(if 0<=x4 then(if x4<(cX.length:Int) then(if fT=(rd cX x4) then((aBc.f k cX fD).bind λoB=>(if oB=true then(aAh.l1 k cX x4 mL lZ (wrap64 (kW+1)) aU aM) else(if cX.length<17592186044416 then(aAh.l1 k (cX++[fD]) x4 mL lZ (wrap64 (kW+1)) aU aM) else(none)))) else(aAh.l1 k cX x4 mL lZ (wrap64 (kW+1)) aU aM)) else(none)) else(none))) else(none)) else(if 0<=x4 then(if x4<(x3.length:Int) then(if fT=(rd x3 x4) then((aBc.f k x3 fD).bind λoN=>(if oN=true then(aAh.l1 k x3 x4 mL lZ (wrap64 (kW+1)) aU aM) else(if x3.length<17592186044416 then(aAh.l1 k (x3++[fD]) x4 mL lZ (wrap64 (kW+1)) aU aM) else(none)))) else(aAh.l1 k x3 x4 mL lZ (wrap64 (kW+1)) aU aM)) else(none)) else(none))
end
def aAh.f (k:Nat) (aE:Int) (aC:List (S73)):Option (List Int):=aAh.l0 k (([0]:List Int)) 0 aE aC
theorem aAh.aBa:∀ k,(∀ y0 y1 y2 y3,LeO (aAh.l0 k y0 y1 y2 y3) (aAh.l0 (k+1) y0 y1 y2 y3))/\(∀ y0 y1 y2 y3 y4 y5 y6,LeO (aAh.l1 k y0 y1 y2 y3 y4 y5 y6) (aAh.l1 (k+1) y0 y1 y2 y3 y4 y5 y6))/\(∀ y0 y1 y2 y3 y4 y5 y6 y7 y8 y9,LeO (aAh.j2 k y0 y1 y2 y3 y4 y5 y6 y7 y8 y9) (aAh.j2 (k+1) y0 y1 y2 y3 y4 y5 y6 y7 y8 y9))
 | 0=>⟨λ_ _ _ _ r h=>by simp[aAh.l0]at h,λ_ _ _ _ _ _ _ r h=>by simp[aAh.l1]at h,λ_ _ _ _ _ _ _ _ _ _ r h=>by simp[aAh.j2]at h⟩
 | k+1=>by
  obtain⟨ih0,ih1,ih2⟩:=aAh.aBa k
  refine⟨?_,?_,?_⟩
  ·intro y0 y1 y2 y3
   unfold aAh.l0
   exact zm6
  ·intro y0 y1 y2 y3 y4 y5 y6
   unfold aAh.l1
   exact zm6
  ·intro y0 y1 y2 y3 y4 y5 y6 y7 y8 y9
   unfold aAh.j2
   exact zm6
theorem aAh.mono:∀ a0 a1 k,LeO (aAh.f k a0 a1) (aAh.f (k+1) a0 a1):=by
 intro a0 a1 k;obtain⟨ih0,ih1,ih2⟩:=aAh.aBa k;unfold aAh.f;exact zm6
theorem aAh.calls (k:Nat) (aE:Int) (aQ:Option Addr) (aG:Nat) (aC:List (S73)) (r:List Int) (w:World) (hr0_1:Kd.C k73 w aQ aC.length aC) (hc0_1:aC.length<=aG) (h:aAh.f k aE aC=some r) :
  Calls Try.prog 89 #[.agg #[.int .i64 aE,.slice aQ aC.length aG]] w λe w'=>∃ v0_:Value,e = .returned (v0_)/\Kd.R (Kd.int .i64) 3 w' w.heap.size (λ_=>True) v0_ r/\Below w.heap.size w w':=by
 have aIh:=Try.underlying25;have aUl:=Try.underlying73;have b7:=zK_ hr0_1;have bY:=zK_ hc0_1;clear hr0_1 hc0_1;have HB:=zK_ (Below.refl w.heap.size w);have H:(aAh.l0 k (([0]:List Int)) 0 aE aC)=some r:=h;clear h;obtain⟨pW,hy_⟩:∃ y_:List Int,y_=(([0]:List Int)):=⟨_,rfl⟩;(replace H:(aAh.l0 k pW 0 aE aC)=some r:=zzY);have kU:=zK_ hy_;clear hy_;have H':=zK_ H;clear H;go_enter Try.func89,Try.ntmps89;(go_wp2_with (first|((with_reducible refine aAw (N:=1) rfl ?_);refine aAq ?hg (N:=1) ?hd (cs:=#[.int .i64 aE,.slice aQ aC.length aG]) (t:=25) ?hr ?_;(case hd=>rfl);(case hg=>rfl);(case hr=>exact aDq);intro aD hg w2 hbox hb;have n_:=zA4 (aA3 zz2 hb) hbox (aE1:w.heap.size<=aD) (aE1:w.heap.size<=aD);clear HB;obtain⟨HB,aA,aDt,aDe⟩:=n_;clear hb hbox hg)|((with_reducible refine aAw (N:=7) rfl ?_);refine Kd.aP4 (Kd.int .i64) _ 3 ?hg (N:=7) ?hd (xs:=([0]:List Int)) (inner:=[.int .i64 0]) (ok:=λ_=>True) (okp:=λ_=>True) ?hr ?hp (λ_ hk=>hk) trivial (Below.refl _ _) (Nat.le_refl _) (by simp) ?_;(case hd=>rfl);(case hg=>rfl);(case hr=>exact aDq);(case hp=>exact(aEf.one (show Kd.M (Kd.int .i64) _ _ _ 0 [.int .i64 0] from rfl) (aEf.none _ _)));intro aWc w3 ho4 hb hg_ aGn;clear hg_ aGn;(first|rw[<-kU.out]at ho4|(simp only[Int.reduceToNat]at ho4;rw[<-kU.out]at ho4));have n_:=zA3 (Kd.aCm ho4 (aAj zz1)) (aA4 (g:=aD) (o:=.cells #[.int .i64 aE,.slice aQ aC.length aG] 25 (0,0)) zz0 hb) (aA3 zz1 hb);clear aA HB;obtain⟨cQ,aA,HB⟩:=n_;clear hb ho4)));(repeat(go_quiet (first|((with_reducible refine aAw (N:=1) rfl ?_);refine aAq ?hg (N:=1) ?hd (cs:=#[.int .i64 aE,.slice aQ aC.length aG]) (t:=25) ?hr ?_;(case hd=>rfl);(case hg=>rfl);(case hr=>exact aDq);intro aD hg w2 hbox hb;have n_:=zA4 (aA3 zz2 hb) hbox (aE1:w.heap.size<=aD) (aE1:w.heap.size<=aD);clear HB;obtain⟨HB,aA,aDt,aDe⟩:=n_;clear hb hbox hg)|((with_reducible refine aAw (N:=7) rfl ?_);refine Kd.aP4 (Kd.int .i64) _ 3 ?hg (N:=7) ?hd (xs:=([0]:List Int)) (inner:=[.int .i64 0]) (ok:=λ_=>True) (okp:=λ_=>True) ?hr ?hp (λ_ hk=>hk) trivial (Below.refl _ _) (Nat.le_refl _) (by simp) ?_;(case hd=>rfl);(case hg=>rfl);(case hr=>exact aDq);(case hp=>exact(aEf.one (show Kd.M (Kd.int .i64) _ _ _ 0 [.int .i64 0] from rfl) (aEf.none _ _)));intro aWc w3 ho4 hb hg_ aGn;clear hg_ aGn;(first|rw[<-kU.out]at ho4|(simp only[Int.reduceToNat]at ho4;rw[<-kU.out]at ho4));have n_:=zA3 (Kd.aCm ho4 (aAj zz1)) (aA4 (g:=aD) (o:=.cells #[.int .i64 aE,.slice aQ aC.length aG] 25 (0,0)) zz0 hb) (aA3 zz1 hb);clear aA HB;obtain⟨cQ,aA,HB⟩:=n_;clear hb ho4));try go_wp2_with (first|((with_reducible refine aAw (N:=1) rfl ?_);refine aAq ?hg (N:=1) ?hd (cs:=#[.int .i64 aE,.slice aQ aC.length aG]) (t:=25) ?hr ?_;(case hd=>rfl);(case hg=>rfl);(case hr=>exact aDq);intro aD hg w2 hbox hb;have n_:=zA4 (aA3 zz2 hb) hbox (aE1:w.heap.size<=aD) (aE1:w.heap.size<=aD);clear HB;obtain⟨HB,aA,aDt,aDe⟩:=n_;clear hb hbox hg)|((with_reducible refine aAw (N:=7) rfl ?_);refine Kd.aP4 (Kd.int .i64) _ 3 ?hg (N:=7) ?hd (xs:=([0]:List Int)) (inner:=[.int .i64 0]) (ok:=λ_=>True) (okp:=λ_=>True) ?hr ?hp (λ_ hk=>hk) trivial (Below.refl _ _) (Nat.le_refl _) (by simp) ?_;(case hd=>rfl);(case hg=>rfl);(case hr=>exact aDq);(case hp=>exact(aEf.one (show Kd.M (Kd.int .i64) _ _ _ 0 [.int .i64 0] from rfl) (aEf.none _ _)));intro aWc w3 ho4 hb hg_ aGn;clear hg_ aGn;(first|rw[<-kU.out]at ho4|(simp only[Int.reduceToNat]at ho4;rw[<-kU.out]at ho4));have n_:=zA3 (Kd.aCm ho4 (aAj zz1)) (aA4 (g:=aD) (o:=.cells #[.int .i64 aE,.slice aQ aC.length aG] 25 (0,0)) zz0 hb) (aA3 zz1 hb);clear aA HB;obtain⟨cQ,aA,HB⟩:=n_;clear hb ho4))));(go_loopg [3,4] k (λkq v3 v4 w'=>∃ (dJ:List Int) (bO:Int),v4 = .int .i64 bO/\aA1 (aAh.l0 kq dJ bO aE aC=some r)/\aA1 (kq<=k)/\aA1 (Kd.R (Kd.int .i64) 3 w' w.heap.size (λ_=>True) v3 dJ)/\aA1 (w'.heap[aD]? = some (.cells #[.int .i64 aE,(.slice aQ aC.length aG)] 25 (0,0)))/\aA1 (Below w.heap.size w w')));case atStart=>exact⟨(pW),(0),zz5,H',⟨Nat.le_refl _⟩,⟨aMv⟩,⟨zz0⟩,⟨zz1⟩⟩
 case round =>
  clear H';(try clear p2);obtain⟨dJ,bO,rfl,HA,HK1,bV,aA,HB⟩:=hrel
  cases gk with
  | zero=>exact absurd HA.out (by simp[aAh.l0])
  | succ k1 =>
   have H:=HA.out;clear HA;simp only[aAh.l0]at H;by_cases c5:bO<(dJ.length:Int);rotate_left
   ·rw[if_neg c5]at H;have fL:=zdN c5;clear c5;obtain rfl:=zdI H;obtain⟨bCl,bCf,wT⟩:=Kd.aBe bV.out;subst wT;go_wp2;(repeat(go_quiet (fail);try go_wp2));go_ret;exact⟨_,zz9,aK9,zz1⟩
   rw[if_pos c5]at H;have fL:=zdY c5;clear c5;have H':=zK_ H;clear H;obtain⟨Ao6,co6,PU⟩:=Kd.aBe bV.out;subst PU;have iH:=aCg aA;have iG:=aCf aA;have iF:=aA0 aA.out 0;have iE:=aA0 aA.out 1;go_wp2;(repeat(go_quiet (fail);try go_wp2));(go_loopg [3,17] k1 (λkq v3 v17 w'=>∃ (dR:List Int) (aZ:Int),v17 = .int .i64 aZ/\aA1 (aAh.l1 kq dR bO aC (aC.length:Int) aZ aE aC=some r)/\aA1 (kq<=k1)/\aA1 (Kd.R (Kd.int .i64) 3 w' w.heap.size (λ_=>True) v3 dR)/\aA1 (w'.heap[aD]? = some (.cells #[.int .i64 aE,(.slice aQ aC.length aG)] 25 (0,0)))/\aA1 (Below w.heap.size w w')));case atStart=>exact⟨(dJ),(0),zz5,H',⟨Nat.le_refl _⟩,⟨aK9⟩,⟨zz0⟩,⟨zz1⟩⟩
   case round =>
    clear H';(try clear p2);(try clear c5);(try clear fL);(try clear iH);(try clear iG);(try clear iF);(try clear iE);(try clear p2);obtain⟨dR,aZ,rfl,HA,HK2,bV,aA,HB⟩:=hrel
    cases gk with
    | zero=>exact absurd HA.out (by simp[aAh.l1])
    | succ k2 =>
     have H:=HA.out;clear HA;simp only[aAh.l1]at H;by_cases c8:aZ<(aC.length:Int);rotate_left
     ·rw[if_neg c8]at H;have i3:=zdN c8;clear c8;have H':=zK_ H;clear H;go_wp2;(repeat(go_quiet (fail);try go_wp2));go_roundg k2;(case measure=>have:=HK1.out;have:=HK2.out;omega);case rel=>exact⟨(dR),(wrap64 (bO+1)),zz5,H',⟨by have:=HK1.out;have:=HK2.out;omega⟩,⟨aK9⟩,⟨zz0⟩,⟨zz1⟩⟩
     rw[if_pos c8]at H;have i3:=zdY c8;clear c8;by_cases c9:0<=aZ;rotate_left
     ·rw[if_neg c9]at H;exact absurd H (by simp)
     rw[if_pos c9]at H;have j6:=zdY c9;clear c9;by_cases c10:aZ<(aC.length:Int);rotate_left
     ·rw[if_neg c10]at H;exact absurd H (by simp)
     rw[if_pos c10]at H;have gN:=zdY c10;clear c10;have bHr:=zK_ H;clear H;have aJ7:0<=(aZ:Int):=zdT zz4;have aJ6:aZ<(aC.length:Int):=zdT zz4;obtain⟨dO,aSl,bZ,cT⟩:=aDi b7.out aZ aJ7 aJ6;cases aSl;replace bZ:=(HB.out.cell (World.block_lt_of_cell? w _ bZ)).trans bZ;replace cT:=(HB.out.cell (World.block_lt_of_cell? w _ cT)).trans cT;replace aJ7:=eq_true aJ7;replace aJ6:=eq_true aJ6;(go_upto_region 8 with (first|((with_reducible refine aAw (N:=6) rfl ?_);refine aAq ?hg (N:=6) ?hd (cs:=#[.int .i64 0,.int .i64 0]) (t:=73) ?hr ?_;(case hd=>rfl);(case hg=>rfl);(case hr=>exact aDq);intro bG hg w12 hbox hb;have n_:=zA8 (Kd.aBp aK9 hb) (aA4 (g:=aD) (o:=.cells #[.int .i64 aE,.slice (some dO) aC.length aG] 25 (0,0)) zz0 hb) (aA3 zz1 hb) hbox (aFb:w.heap.size<=bG) (aFb:w.heap.size<=bG) (by rw[hg];exact Nat.ne_of_lt (aCi (g:=aD) (o:=.cells #[.int .i64 aE,.slice (some dO) aC.length aG] 25 (0,0)) zz0):aD≠bG) (by rw[hg];exact Nat.ne_of_gt (aCi (g:=aD) (o:=.cells #[.int .i64 aE,.slice (some dO) aC.length aG] 25 (0,0)) zz0):bG≠aD);clear bV aA HB;obtain⟨bV,aA,HB,aI,bBw,aQc,cN,cS⟩:=n_;clear hb hbox hg;have r5:=cS.out;have rZ:=cN.out;have iO:=aCg aI;have iN:=aCf aI;have iM:=aA0 aI.out 0;have iL:=aA0 aI.out 1)));(repeat(go_quiet (first|((with_reducible refine aAw (N:=6) rfl ?_);refine aAq ?hg (N:=6) ?hd (cs:=#[.int .i64 0,.int .i64 0]) (t:=73) ?hr ?_;(case hd=>rfl);(case hg=>rfl);(case hr=>exact aDq);intro bG hg w12 hbox hb;have n_:=zA8 (Kd.aBp aK9 hb) (aA4 (g:=aD) (o:=.cells #[.int .i64 aE,.slice (some dO) aC.length aG] 25 (0,0)) zz0 hb) (aA3 zz1 hb) hbox (aFb:w.heap.size<=bG) (aFb:w.heap.size<=bG) (by rw[hg];exact Nat.ne_of_lt (aCi (g:=aD) (o:=.cells #[.int .i64 aE,.slice (some dO) aC.length aG] 25 (0,0)) zz0):aD≠bG) (by rw[hg];exact Nat.ne_of_gt (aCi (g:=aD) (o:=.cells #[.int .i64 aE,.slice (some dO) aC.length aG] 25 (0,0)) zz0):bG≠aD);clear bV aA HB;obtain⟨bV,aA,HB,aI,bBw,aQc,cN,cS⟩:=n_;clear hb hbox hg;have r5:=cS.out;have rZ:=cN.out;have iO:=aCg aI;have iN:=aCf aI;have iM:=aA0 aI.out 0;have iL:=aA0 aI.out 1));go_upto_region 8 with (first|((with_reducible refine aAw (N:=6) rfl ?_);refine aAq ?hg (N:=6) ?hd (cs:=#[.int .i64 0,.int .i64 0]) (t:=73) ?hr ?_;(case hd=>rfl);(case hg=>rfl);(case hr=>exact aDq);intro bG hg w12 hbox hb;have n_:=zA8 (Kd.aBp aK9 hb) (aA4 (g:=aD) (o:=.cells #[.int .i64 aE,.slice (some dO) aC.length aG] 25 (0,0)) zz0 hb) (aA3 zz1 hb) hbox (aFb:w.heap.size<=bG) (aFb:w.heap.size<=bG) (by rw[hg];exact Nat.ne_of_lt (aCi (g:=aD) (o:=.cells #[.int .i64 aE,.slice (some dO) aC.length aG] 25 (0,0)) zz0):aD≠bG) (by rw[hg];exact Nat.ne_of_gt (aCi (g:=aD) (o:=.cells #[.int .i64 aE,.slice (some dO) aC.length aG] 25 (0,0)) zz0):bG≠aD);clear bV aA HB;obtain⟨bV,aA,HB,aI,bBw,aQc,cN,cS⟩:=n_;clear hb hbox hg;have r5:=cS.out;have rZ:=cN.out;have iO:=aCg aI;have iN:=aCf aI;have iM:=aA0 aI.out 0;have iL:=aA0 aI.out 1))));(try simp only[Act.put,List.setIfInBounds_toArray,List.set_cons_zero,List.set_cons_succ]);go_cut [34] (λv34 wc=>∃ (kq:Nat) (oY:Bool),v34 = .bool oY/\aA1 (aAh.j2 kq dR bO aC (aC.length:Int) aZ oY aE aC ((aA2 aC aZ).f0) ((aA2 aC aZ).f1)=some r)/\aA1 (kq<=k2)/\aA1 (Kd.R (Kd.int .i64) 3 wc w.heap.size (λ_=>True) u3 dR)/\aA1 (wc.heap[aD]? = some (.cells #[.int .i64 aE,(.slice (some dO) aC.length aG)] 25 (0,0)))/\aA1 (wc.heap[bG]? = some (.cells #[.int .i64 ((aA2 aC aZ).f0),.int .i64 ((aA2 aC aZ).f1)] 73 (0,0)))/\aA1 (Below w.heap.size w wc))
     case first =>
      have H:=bHr.out;clear bHr;by_cases c15:0<=bO;rotate_left
      ·rw[if_neg c15]at H;exact absurd H (by simp)
      rw[if_pos c15]at H;have mW:=zdY c15;clear c15;(first|rw[mW]|(simp only[aF0,aK5];rw[mW])|skip);by_cases c16:bO<(dR.length:Int);rotate_left
      ·rw[if_neg c16]at H;exact absurd H (by simp)
      rw[if_pos c16]at H;have l9:=zdY c16;clear c16;by_cases c17:((aA2 aC aZ).f0)=(rd dR bO);rotate_left
      ·rw[if_neg c17]at H;have l8:(((aA2 aC aZ).f0)==(rd dR bO))=false:=beq_eq_false_iff_ne.mpr c17;have xO:(((aA2 aC aZ).f0) != (rd dR bO))=true:=bne_iff_ne.mpr c17;have H':=zK_ H;clear H;have tL:=cS.out;have tK:=cN.out;have gK:=aCg aI;have gJ:=aCf aI;have gI:=aA0 aI.out 0;have gH:=aA0 aI.out 1;obtain⟨bHx,bHb,yL⟩:=Kd.aBe bV.out;subst yL;have aPc:0<=(bO:Int):=zdT zz4;have aPb:bO<(dR.length:Int):=zdT zz4;obtain⟨mY,bAz,dI⟩:=Kd.aCz (Kd.aAc bV.out).2.2 bO aPc aPb;cases bAz;have hn107_0:mY.block≠bG:=Kd.aN9 (Kd.aEd bV.out aI.out (by decide));have hn107_1:mY.block≠bG:=Kd.aN9 (Kd.aEd bV.out aI.out (by decide));replace dI:=(cell_far (p:=⟨bG,0,none⟩) (by first|(rw[add_block];exact hn107_0)|(show (Addr.add _ _).block≠_;rw[add_block];exact hn107_0)|exact hn107_0) (.int .i64 ((aA2 aC aZ).f0))).trans dI;replace dI:=(cell_far (p:=⟨bG,1,none⟩) (by first|(rw[add_block];exact hn107_1)|(show (Addr.add _ _).block≠_;rw[add_block];exact hn107_1)|exact hn107_1) (.int .i64 ((aA2 aC aZ).f1))).trans dI;(try have hy107_0:=λ(n_:Nat)=>(show ((((w12.drewN n_).setCell ⟨bG,0,none⟩ (.int .i64 ((aA2 aC aZ).f0))).setCell ⟨bG,1,none⟩ (.int .i64 ((aA2 aC aZ).f1)))).cell? _=some _ from dI));clear hn107_0;clear hn107_1;replace aPc:=eq_true aPc;replace aPb:=eq_true aPb;go_wp2;(repeat(go_quiet (fail);try go_wp2));(go_meet);case rel=>exact⟨_,(false),zz5,H',⟨by have:=HK1.out;have:=HK2.out;first|omega|exact Nat.le_refl _⟩,⟨bCt⟩,⟨bCo⟩,⟨bCy⟩,⟨aH3⟩⟩
      rw[if_pos c17]at H;have l8:(((aA2 aC aZ).f0)==(rd dR bO))=true:=beq_iff_eq.mpr c17;have xO:(((aA2 aC aZ).f0) != (rd dR bO))=false:=bne_eq_false_iff_eq.mpr c17;clear c17;obtain⟨fE,bFq,H⟩:=zO_ H;(try dsimp only at H);have A18:=zK_ bFq;clear bFq;have H':=zK_ H;clear H;have xH:=cS.out;have xD:=cN.out;have pO:=aCg aI;have pN:=aCf aI;have pC:=aA0 aI.out 0;have pA:=aA0 aI.out 1;obtain⟨bNt,bG7,wV⟩:=Kd.aBe bV.out;subst wV;have aPc:0<=(bO:Int):=zdT zz4;have aPb:bO<(dR.length:Int):=zdT zz4;obtain⟨mY,bAz,dI⟩:=Kd.aCz (Kd.aAc bV.out).2.2 bO aPc aPb;cases bAz;have hn107_0:mY.block≠bG:=Kd.aN9 (Kd.aEd bV.out aI.out (by decide));have hn107_1:mY.block≠bG:=Kd.aN9 (Kd.aEd bV.out aI.out (by decide));replace dI:=(cell_far (p:=⟨bG,0,none⟩) (by first|(rw[add_block];exact hn107_0)|(show (Addr.add _ _).block≠_;rw[add_block];exact hn107_0)|exact hn107_0) (.int .i64 ((aA2 aC aZ).f0))).trans dI;replace dI:=(cell_far (p:=⟨bG,1,none⟩) (by first|(rw[add_block];exact hn107_1)|(show (Addr.add _ _).block≠_;rw[add_block];exact hn107_1)|exact hn107_1) (.int .i64 ((aA2 aC aZ).f1))).trans dI;(try have hy107_0:=λ(n_:Nat)=>(show ((((w12.drewN n_).setCell ⟨bG,0,none⟩ (.int .i64 ((aA2 aC aZ).f0))).setCell ⟨bG,1,none⟩ (.int .i64 ((aA2 aC aZ).f1)))).cell? _=some _ from dI));clear hn107_0;clear hn107_1;replace aPc:=eq_true aPc;replace aPb:=eq_true aPb;(go_wp2_with (first|(go_at_call 115;(with_reducible refine(aBc.calls k2 _ _ dR ((aA2 aC aZ).f1) fE _ ?side1 ?side2 A18.out).mono ?_);(case side1=>refine(Kd.aAc (e:=3) (base:=w.heap.size) (ok:=λk_=>True) (n:=dR.length) (c:=bG7) ?_).2.2;exact bGe);(case side2=>exact(Kd.aAc bV.out).2.1);rintro e w' ⟨rfl,⟨nd,rfl⟩⟩;(try first|exact⟨rfl,_,World.drewN_drewN _ _ _⟩|exact⟨rfl,_,Eq.trans (World.drewN_drewN _ _ _) (congrArg (World.drewN _) (Nat.add_assoc _ _ _))⟩))));(repeat(go_quiet (first|(go_at_call 115;(with_reducible refine(aBc.calls k2 _ _ dR ((aA2 aC aZ).f1) fE _ ?side1 ?side2 A18.out).mono ?_);(case side1=>refine(Kd.aAc (e:=3) (base:=w.heap.size) (ok:=λk_=>True) (n:=dR.length) (c:=bG7) ?_).2.2;exact bGe);(case side2=>exact(Kd.aAc bV.out).2.1);rintro e w' ⟨rfl,⟨nd,rfl⟩⟩;(try first|exact⟨rfl,_,World.drewN_drewN _ _ _⟩|exact⟨rfl,_,Eq.trans (World.drewN_drewN _ _ _) (congrArg (World.drewN _) (Nat.add_assoc _ _ _))⟩)));try go_wp2_with (first|(go_at_call 115;(with_reducible refine(aBc.calls k2 _ _ dR ((aA2 aC aZ).f1) fE _ ?side1 ?side2 A18.out).mono ?_);(case side1=>refine(Kd.aAc (e:=3) (base:=w.heap.size) (ok:=λk_=>True) (n:=dR.length) (c:=bG7) ?_).2.2;exact bGe);(case side2=>exact(Kd.aAc bV.out).2.1);rintro e w' ⟨rfl,⟨nd,rfl⟩⟩;(try first|exact⟨rfl,_,World.drewN_drewN _ _ _⟩|exact⟨rfl,_,Eq.trans (World.drewN_drewN _ _ _) (congrArg (World.drewN _) (Nat.add_assoc _ _ _))⟩)))));(go_meet);case rel=>exact⟨_,(!fE),zz5,H',⟨by have:=HK1.out;have:=HK2.out;first|omega|exact Nat.le_refl _⟩,⟨bCt⟩,⟨bCo⟩,⟨bCy⟩,⟨aH3⟩⟩
     case rest =>
      clear bHr;(try clear c1);(try clear p1);(try clear q1);(try clear hx1);(try clear c2);(try clear p2);(try clear c5);(try clear fL);(try clear c8);(try clear i3);(try clear c9);(try clear j6);(try clear c10);(try clear gN);(try clear p10);(try clear q10);(try clear bMb);(try clear c13);(try clear c15);(try clear mW);(try clear c16);(try clear l9);(try clear c17);(try clear l8);(try clear xO);(try clear c19);(try clear c22);(try clear iO);(try clear iN);(try clear pO);(try clear pN);(try clear gK);(try clear gJ);(try clear iH);(try clear iG);(try clear iM);(try clear iL);(try clear pC);(try clear pA);(try clear gI);(try clear gH);(try clear iF);(try clear iE);(try clear bZ);(try clear cT);(try clear dI);(try clear aJ7);(try clear aPc);(try clear p2);(try clear aJ6);(try clear aPb);obtain⟨kq,oY,rfl,HA,aSy,bV,aA,aI,HB⟩:=hcut
      cases kq with
      | zero=>exact absurd HA.out (by simp[aAh.j2])
      | succ aKf =>
       have H:=HA.out;clear HA;simp only[aAh.j2]at H;by_cases c25:oY=true
       ·subst c25;rw[if_pos rfl]at H;by_cases c26:dR.length<17592186044416;rotate_left
        ·rw[if_neg c26]at H;exact absurd H (by simp)
        rw[if_pos c26]at H;have m2:=zK_ c26;clear c26;obtain⟨cX,hy_⟩:∃ y_:List Int,y_=(dR++[((aA2 aC aZ).f1)]):=⟨_,rfl⟩;(replace H:(if 0<=bO then(if bO<(cX.length:Int) then(if((aA2 aC aZ).f1)=(rd cX bO) then((aBc.f aKf cX ((aA2 aC aZ).f0)).bind λoB=>(if oB=true then(aAh.l1 aKf cX bO aC (aC.length:Int) (wrap64 (aZ+1)) aE aC) else(if cX.length<17592186044416 then(aAh.l1 aKf (cX++[((aA2 aC aZ).f0)]) bO aC (aC.length:Int) (wrap64 (aZ+1)) aE aC) else(none)))) else(aAh.l1 aKf cX bO aC (aC.length:Int) (wrap64 (aZ+1)) aE aC)) else(none)) else(none))=some r:=zzY);have jV:=zK_ hy_;clear hy_;by_cases c27:0<=bO;rotate_left
        ·rw[if_neg c27]at H;exact absurd H (by simp)
        rw[if_pos c27]at H;have D3:=zdY c27;clear c27;by_cases c28:bO<(cX.length:Int);rotate_left
        ·rw[if_neg c28]at H;exact absurd H (by simp)
        rw[if_pos c28]at H;have sR:=zdY c28;clear c28;by_cases c29:((aA2 aC aZ).f1)=(rd cX bO);rotate_left
        ·rw[if_neg c29]at H;have xM:(((aA2 aC aZ).f1)==(rd cX bO))=false:=beq_eq_false_iff_ne.mpr c29;have D2:(((aA2 aC aZ).f1) != (rd cX bO))=true:=bne_iff_ne.mpr c29;have H':=zK_ H;clear H;have AB:=cS.out;have zN:=cN.out;have sJ:=aCg aI;have sI:=aCf aI;have sB:=aA0 aI.out 0;have sA:=aA0 aI.out 1;(go_wp2_with (first|((with_reducible refine aBk (b:=.append) (xs:=#[.tmp 35,.tmp 38]) rfl ?_);at_builtin;refine Kd.aD3 (Kd.int .i64) (w0:=w) w.heap.size rfl (.tmp 35) (.tmp 38) 42 3 (.int .i64 0) 8 rfl Try.underlying42 info3 rfl (by decide) (by omega) u3 dR ((aA2 aC aZ).f1) [.int .i64 ((aA2 aC aZ).f1)] (λ_=>True) (λ_=>False) rfl rfl ?aP (λ_ hk=>hk.elim) ?aF ?aO ?aB ?aS ?aL ?_;(case aP=>exact rfl);(case aB=>exact aH3);(case aF=>exact(λ_ _=>trivial));(case aO=>exact aK9);(case aS=>exact(aAj aH3));(case aL=>have:=m2.out;omega);intro aWb w46 ho hb hg hat;rw[<-jV.out]at ho;have n_:=zA4 (aAx (g:=aD) (o:=.cells #[.int .i64 aE,.slice (some dO) aC.length aG] 25 (0,0)) zz0 hg (Kd.aEd bV.out aA.out (by decide))) (aAx (g:=bG) (o:=.cells #[.int .i64 ((aA2 aC aZ).f0),.int .i64 ((aA2 aC aZ).f1)] 73 (0,0)) aKa hg (Kd.aEd bV.out aI.out (by decide))) hb ho;clear aA aI HB bV;obtain⟨aA,aI,HB,cF⟩:=n_;clear ho hb hg hat;have sH:=aCg aI;have sG:=aCf aI;have r9:=aA0 aI.out 0;have r8:=aA0 aI.out 1;obtain⟨bJ5,bIm,t6⟩:=Kd.aBe cF.out;subst t6;have aGt:0<=(bO:Int):=zdT zz4;have aGs:bO<(cX.length:Int):=zdT zz4;obtain⟨kT,aNh,gG⟩:=Kd.aCz (Kd.aAc cF.out).2.2 bO aGt aGs;cases aNh;replace aGt:=eq_true aGt;replace aGs:=eq_true aGs)));(repeat(go_quiet (first|((with_reducible refine aBk (b:=.append) (xs:=#[.tmp 35,.tmp 38]) rfl ?_);at_builtin;refine Kd.aD3 (Kd.int .i64) (w0:=w) w.heap.size rfl (.tmp 35) (.tmp 38) 42 3 (.int .i64 0) 8 rfl Try.underlying42 info3 rfl (by decide) (by omega) u3 dR ((aA2 aC aZ).f1) [.int .i64 ((aA2 aC aZ).f1)] (λ_=>True) (λ_=>False) rfl rfl ?aP (λ_ hk=>hk.elim) ?aF ?aO ?aB ?aS ?aL ?_;(case aP=>exact rfl);(case aB=>exact aH3);(case aF=>exact(λ_ _=>trivial));(case aO=>exact aK9);(case aS=>exact(aAj aH3));(case aL=>have:=m2.out;omega);intro aWb w46 ho hb hg hat;rw[<-jV.out]at ho;have n_:=zA4 (aAx (g:=aD) (o:=.cells #[.int .i64 aE,.slice (some dO) aC.length aG] 25 (0,0)) zz0 hg (Kd.aEd bV.out aA.out (by decide))) (aAx (g:=bG) (o:=.cells #[.int .i64 ((aA2 aC aZ).f0),.int .i64 ((aA2 aC aZ).f1)] 73 (0,0)) aKa hg (Kd.aEd bV.out aI.out (by decide))) hb ho;clear aA aI HB bV;obtain⟨aA,aI,HB,cF⟩:=n_;clear ho hb hg hat;have sH:=aCg aI;have sG:=aCf aI;have r9:=aA0 aI.out 0;have r8:=aA0 aI.out 1;obtain⟨bJ5,bIm,t6⟩:=Kd.aBe cF.out;subst t6;have aGt:0<=(bO:Int):=zdT zz4;have aGs:bO<(cX.length:Int):=zdT zz4;obtain⟨kT,aNh,gG⟩:=Kd.aCz (Kd.aAc cF.out).2.2 bO aGt aGs;cases aNh;replace aGt:=eq_true aGt;replace aGs:=eq_true aGs));try go_wp2_with (first|((with_reducible refine aBk (b:=.append) (xs:=#[.tmp 35,.tmp 38]) rfl ?_);at_builtin;refine Kd.aD3 (Kd.int .i64) (w0:=w) w.heap.size rfl (.tmp 35) (.tmp 38) 42 3 (.int .i64 0) 8 rfl Try.underlying42 info3 rfl (by decide) (by omega) u3 dR ((aA2 aC aZ).f1) [.int .i64 ((aA2 aC aZ).f1)] (λ_=>True) (λ_=>False) rfl rfl ?aP (λ_ hk=>hk.elim) ?aF ?aO ?aB ?aS ?aL ?_;(case aP=>exact rfl);(case aB=>exact aH3);(case aF=>exact(λ_ _=>trivial));(case aO=>exact aK9);(case aS=>exact(aAj aH3));(case aL=>have:=m2.out;omega);intro aWb w46 ho hb hg hat;rw[<-jV.out]at ho;have n_:=zA4 (aAx (g:=aD) (o:=.cells #[.int .i64 aE,.slice (some dO) aC.length aG] 25 (0,0)) zz0 hg (Kd.aEd bV.out aA.out (by decide))) (aAx (g:=bG) (o:=.cells #[.int .i64 ((aA2 aC aZ).f0),.int .i64 ((aA2 aC aZ).f1)] 73 (0,0)) aKa hg (Kd.aEd bV.out aI.out (by decide))) hb ho;clear aA aI HB bV;obtain⟨aA,aI,HB,cF⟩:=n_;clear ho hb hg hat;have sH:=aCg aI;have sG:=aCf aI;have r9:=aA0 aI.out 0;have r8:=aA0 aI.out 1;obtain⟨bJ5,bIm,t6⟩:=Kd.aBe cF.out;subst t6;have aGt:0<=(bO:Int):=zdT zz4;have aGs:bO<(cX.length:Int):=zdT zz4;obtain⟨kT,aNh,gG⟩:=Kd.aCz (Kd.aAc cF.out).2.2 bO aGt aGs;cases aNh;replace aGt:=eq_true aGt;replace aGs:=eq_true aGs))));go_roundg aKf;(case measure=>have:=HK1.out;have:=HK2.out;have:=aSy.out;omega);case rel=>exact⟨(cX),(wrap64 (aZ+1)),zz5,H',⟨by have:=HK1.out;have:=HK2.out;have:=aSy.out;omega⟩,⟨by(with_reducible repeat(first|apply Kd.aAu|apply Kd.aAt|apply Kd.aB5));exact cF.out⟩,⟨zz0⟩,⟨aH3⟩⟩
        rw[if_pos c29]at H;have xM:(((aA2 aC aZ).f1)==(rd cX bO))=true:=beq_iff_eq.mpr c29;have D2:(((aA2 aC aZ).f1) != (rd cX bO))=false:=bne_eq_false_iff_eq.mpr c29;clear c29;obtain⟨oB,bFo,H⟩:=zO_ H;(try dsimp only at H);have A30:=zK_ bFo;clear bFo;by_cases c31:oB=true
        ·subst c31;rw[if_pos rfl]at H;have H':=zK_ H;clear H;have OF:=cS.out;have NA:=cN.out;have wP:=aCg aI;have wO:=aCf aI;have vU:=aA0 aI.out 0;have vT:=aA0 aI.out 1;(go_wp2_with (first|((with_reducible refine aBk (b:=.append) (xs:=#[.tmp 35,.tmp 38]) rfl ?_);at_builtin;refine Kd.aD3 (Kd.int .i64) (w0:=w) w.heap.size rfl (.tmp 35) (.tmp 38) 42 3 (.int .i64 0) 8 rfl Try.underlying42 info3 rfl (by decide) (by omega) u3 dR ((aA2 aC aZ).f1) [.int .i64 ((aA2 aC aZ).f1)] (λ_=>True) (λ_=>False) rfl rfl ?aP (λ_ hk=>hk.elim) ?aF ?aO ?aB ?aS ?aL ?_;(case aP=>exact rfl);(case aB=>exact aH3);(case aF=>exact(λ_ _=>trivial));(case aO=>exact aK9);(case aS=>exact(aAj aH3));(case aL=>have:=m2.out;omega);intro aWb w34 ho hb hg hat;rw[<-jV.out]at ho;have n_:=zA4 (aAx (g:=aD) (o:=.cells #[.int .i64 aE,.slice (some dO) aC.length aG] 25 (0,0)) zz0 hg (Kd.aEd bV.out aA.out (by decide))) (aAx (g:=bG) (o:=.cells #[.int .i64 ((aA2 aC aZ).f0),.int .i64 ((aA2 aC aZ).f1)] 73 (0,0)) aKa hg (Kd.aEd bV.out aI.out (by decide))) hb ho;clear aA aI HB bV;obtain⟨aA,aI,HB,cF⟩:=n_;clear ho hb hg hat;have g8:=aCg aI;have g7:=aCf aI;have g6:=aA0 aI.out 0;have g5:=aA0 aI.out 1;obtain⟨bHw,bH9,rL⟩:=Kd.aBe cF.out;subst rL;have aGt:0<=(bO:Int):=zdT zz4;have aGs:bO<(cX.length:Int):=zdT zz4;obtain⟨kT,aNh,gG⟩:=Kd.aCz (Kd.aAc cF.out).2.2 bO aGt aGs;cases aNh;replace aGt:=eq_true aGt;replace aGs:=eq_true aGs)|(go_at_call 115;(with_reducible refine(aBc.calls aKf _ _ cX ((aA2 aC aZ).f0) true _ ?side1 ?side2 A30.out).mono ?_);(case side1=>exact aYa);(case side2=>exact(Kd.aAc cF.out).2.1);rintro e w' ⟨rfl,⟨nd,rfl⟩⟩;(try first|exact⟨rfl,_,World.drewN_drewN _ _ _⟩|exact⟨rfl,_,Eq.trans (World.drewN_drewN _ _ _) (congrArg (World.drewN _) (Nat.add_assoc _ _ _))⟩))));(repeat(go_quiet (first|((with_reducible refine aBk (b:=.append) (xs:=#[.tmp 35,.tmp 38]) rfl ?_);at_builtin;refine Kd.aD3 (Kd.int .i64) (w0:=w) w.heap.size rfl (.tmp 35) (.tmp 38) 42 3 (.int .i64 0) 8 rfl Try.underlying42 info3 rfl (by decide) (by omega) u3 dR ((aA2 aC aZ).f1) [.int .i64 ((aA2 aC aZ).f1)] (λ_=>True) (λ_=>False) rfl rfl ?aP (λ_ hk=>hk.elim) ?aF ?aO ?aB ?aS ?aL ?_;(case aP=>exact rfl);(case aB=>exact aH3);(case aF=>exact(λ_ _=>trivial));(case aO=>exact aK9);(case aS=>exact(aAj aH3));(case aL=>have:=m2.out;omega);intro aWb w34 ho hb hg hat;rw[<-jV.out]at ho;have n_:=zA4 (aAx (g:=aD) (o:=.cells #[.int .i64 aE,.slice (some dO) aC.length aG] 25 (0,0)) zz0 hg (Kd.aEd bV.out aA.out (by decide))) (aAx (g:=bG) (o:=.cells #[.int .i64 ((aA2 aC aZ).f0),.int .i64 ((aA2 aC aZ).f1)] 73 (0,0)) aKa hg (Kd.aEd bV.out aI.out (by decide))) hb ho;clear aA aI HB bV;obtain⟨aA,aI,HB,cF⟩:=n_;clear ho hb hg hat;have g8:=aCg aI;have g7:=aCf aI;have g6:=aA0 aI.out 0;have g5:=aA0 aI.out 1;obtain⟨bHw,bH9,rL⟩:=Kd.aBe cF.out;subst rL;have aGt:0<=(bO:Int):=zdT zz4;have aGs:bO<(cX.length:Int):=zdT zz4;obtain⟨kT,aNh,gG⟩:=Kd.aCz (Kd.aAc cF.out).2.2 bO aGt aGs;cases aNh;replace aGt:=eq_true aGt;replace aGs:=eq_true aGs)|(go_at_call 115;(with_reducible refine(aBc.calls aKf _ _ cX ((aA2 aC aZ).f0) true _ ?side1 ?side2 A30.out).mono ?_);(case side1=>exact aYa);(case side2=>exact(Kd.aAc cF.out).2.1);rintro e w' ⟨rfl,⟨nd,rfl⟩⟩;(try first|exact⟨rfl,_,World.drewN_drewN _ _ _⟩|exact⟨rfl,_,Eq.trans (World.drewN_drewN _ _ _) (congrArg (World.drewN _) (Nat.add_assoc _ _ _))⟩)));try go_wp2_with (first|((with_reducible refine aBk (b:=.append) (xs:=#[.tmp 35,.tmp 38]) rfl ?_);at_builtin;refine Kd.aD3 (Kd.int .i64) (w0:=w) w.heap.size rfl (.tmp 35) (.tmp 38) 42 3 (.int .i64 0) 8 rfl Try.underlying42 info3 rfl (by decide) (by omega) u3 dR ((aA2 aC aZ).f1) [.int .i64 ((aA2 aC aZ).f1)] (λ_=>True) (λ_=>False) rfl rfl ?aP (λ_ hk=>hk.elim) ?aF ?aO ?aB ?aS ?aL ?_;(case aP=>exact rfl);(case aB=>exact aH3);(case aF=>exact(λ_ _=>trivial));(case aO=>exact aK9);(case aS=>exact(aAj aH3));(case aL=>have:=m2.out;omega);intro aWb w34 ho hb hg hat;rw[<-jV.out]at ho;have n_:=zA4 (aAx (g:=aD) (o:=.cells #[.int .i64 aE,.slice (some dO) aC.length aG] 25 (0,0)) zz0 hg (Kd.aEd bV.out aA.out (by decide))) (aAx (g:=bG) (o:=.cells #[.int .i64 ((aA2 aC aZ).f0),.int .i64 ((aA2 aC aZ).f1)] 73 (0,0)) aKa hg (Kd.aEd bV.out aI.out (by decide))) hb ho;clear aA aI HB bV;obtain⟨aA,aI,HB,cF⟩:=n_;clear ho hb hg hat;have g8:=aCg aI;have g7:=aCf aI;have g6:=aA0 aI.out 0;have g5:=aA0 aI.out 1;obtain⟨bHw,bH9,rL⟩:=Kd.aBe cF.out;subst rL;have aGt:0<=(bO:Int):=zdT zz4;have aGs:bO<(cX.length:Int):=zdT zz4;obtain⟨kT,aNh,gG⟩:=Kd.aCz (Kd.aAc cF.out).2.2 bO aGt aGs;cases aNh;replace aGt:=eq_true aGt;replace aGs:=eq_true aGs)|(go_at_call 115;(with_reducible refine(aBc.calls aKf _ _ cX ((aA2 aC aZ).f0) true _ ?side1 ?side2 A30.out).mono ?_);(case side1=>exact aYa);(case side2=>exact(Kd.aAc cF.out).2.1);rintro e w' ⟨rfl,⟨nd,rfl⟩⟩;(try first|exact⟨rfl,_,World.drewN_drewN _ _ _⟩|exact⟨rfl,_,Eq.trans (World.drewN_drewN _ _ _) (congrArg (World.drewN _) (Nat.add_assoc _ _ _))⟩)))));go_roundg aKf;(case measure=>have:=HK1.out;have:=HK2.out;have:=aSy.out;omega);case rel=>exact⟨(cX),(wrap64 (aZ+1)),zz5,H',⟨by have:=HK1.out;have:=HK2.out;have:=aSy.out;omega⟩,⟨by(with_reducible repeat(first|apply Kd.aAu|apply Kd.aAt|apply Kd.aB5));exact cF.out⟩,⟨zz0⟩,⟨aH3⟩⟩
        replace c31:=zdB c31;subst c31;rw[if_neg (show ¬ (false=true) by decide)]at H;by_cases c37:cX.length<17592186044416;rotate_left
        ·rw[if_neg c37]at H;exact absurd H (by simp)
        rw[if_pos c37]at H;have uN:=zK_ c37;clear c37;obtain⟨tD,hy_⟩:∃ y_:List Int,y_=(cX++[((aA2 aC aZ).f0)]):=⟨_,rfl⟩;(replace H:(aAh.l1 aKf tD bO aC (aC.length:Int) (wrap64 (aZ+1)) aE aC)=some r:=zzY);have q4:=zK_ hy_;clear hy_;have H':=zK_ H;clear H;have OC:=cS.out;have M7:=cN.out;have lS:=aCg aI;have lR:=aCf aI;have lK:=aA0 aI.out 0;have lJ:=aA0 aI.out 1;(go_wp2_with (first|((with_reducible refine aBk (b:=.append) (xs:=#[.tmp 35,.tmp 38]) rfl ?_);at_builtin;refine Kd.aD3 (Kd.int .i64) (w0:=w) w.heap.size rfl (.tmp 35) (.tmp 38) 42 3 (.int .i64 0) 8 rfl Try.underlying42 info3 rfl (by decide) (by omega) u3 dR ((aA2 aC aZ).f1) [.int .i64 ((aA2 aC aZ).f1)] (λ_=>True) (λ_=>False) rfl rfl ?aP (λ_ hk=>hk.elim) ?aF ?aO ?aB ?aS ?aL ?_;(case aP=>exact rfl);(case aB=>exact aH3);(case aF=>exact(λ_ _=>trivial));(case aO=>exact aK9);(case aS=>exact(aAj aH3));(case aL=>have:=m2.out;omega);intro aWb w40 ho hb hg hat;rw[<-jV.out]at ho;have n_:=zA4 (aAx (g:=aD) (o:=.cells #[.int .i64 aE,.slice (some dO) aC.length aG] 25 (0,0)) zz0 hg (Kd.aEd bV.out aA.out (by decide))) (aAx (g:=bG) (o:=.cells #[.int .i64 ((aA2 aC aZ).f0),.int .i64 ((aA2 aC aZ).f1)] 73 (0,0)) aKa hg (Kd.aEd bV.out aI.out (by decide))) hb ho;clear aA aI HB bV;obtain⟨aA,aI,HB,cF⟩:=n_;clear ho hb hg hat;have nV:=aCg aI;have nU:=aCf aI;have nL:=aA0 aI.out 0;have nK:=aA0 aI.out 1;obtain⟨bHv,bCg,rK⟩:=Kd.aBe cF.out;subst rK;have aGt:0<=(bO:Int):=zdT zz4;have aGs:bO<(cX.length:Int):=zdT zz4;obtain⟨kT,aNh,gG⟩:=Kd.aCz (Kd.aAc cF.out).2.2 bO aGt aGs;cases aNh;replace aGt:=eq_true aGt;replace aGs:=eq_true aGs)|(go_at_call 115;(with_reducible refine(aBc.calls aKf _ _ cX ((aA2 aC aZ).f0) false _ ?side1 ?side2 A30.out).mono ?_);(case side1=>exact aYa);(case side2=>exact(Kd.aAc cF.out).2.1);rintro e w' ⟨rfl,⟨nd,rfl⟩⟩;(try first|exact⟨rfl,_,World.drewN_drewN _ _ _⟩|exact⟨rfl,_,Eq.trans (World.drewN_drewN _ _ _) (congrArg (World.drewN _) (Nat.add_assoc _ _ _))⟩))|((with_reducible refine aBk (b:=.append) (xs:=#[.tmp 54,.tmp 57]) rfl ?_);at_builtin;refine Kd.aD3 (Kd.int .i64) (w0:=w) w.heap.size rfl (.tmp 54) (.tmp 57) 42 3 (.int .i64 0) 8 rfl Try.underlying42 info3 rfl (by decide) (by omega) (.slice (some kT) cX.length bCg) cX ((aA2 aC aZ).f0) [.int .i64 ((aA2 aC aZ).f0)] (λ_=>True) (λ_=>False) rfl rfl ?aP (λ_ hk=>hk.elim) ?aF ?aO ?aB ?aS ?aL ?_;(case aP=>exact rfl);(case aB=>exact aH3);(case aF=>exact(λ_ _=>trivial));(case aO=>exact aVv);(case aS=>exact(aAj aH3));(case aL=>have:=uN.out;omega);intro bGp w43 ho hb hg hat;rw[<-q4.out]at ho;have n_:=zA4 (aAx (g:=aD) (o:=.cells #[.int .i64 aE,.slice (some dO) aC.length aG] 25 (0,0)) zz0 hg (Kd.aEd cF.out aA.out (by decide))) (aAx (g:=bG) (o:=.cells #[.int .i64 ((aA2 aC aZ).f0),.int .i64 ((aA2 aC aZ).f1)] 73 (0,0)) aKa hg (Kd.aEd cF.out aI.out (by decide))) hb ho;clear aA aI HB cF;obtain⟨aA,aI,HB,rA⟩:=n_;clear ho hb hg hat)));(repeat(go_quiet (first|((with_reducible refine aBk (b:=.append) (xs:=#[.tmp 35,.tmp 38]) rfl ?_);at_builtin;refine Kd.aD3 (Kd.int .i64) (w0:=w) w.heap.size rfl (.tmp 35) (.tmp 38) 42 3 (.int .i64 0) 8 rfl Try.underlying42 info3 rfl (by decide) (by omega) u3 dR ((aA2 aC aZ).f1) [.int .i64 ((aA2 aC aZ).f1)] (λ_=>True) (λ_=>False) rfl rfl ?aP (λ_ hk=>hk.elim) ?aF ?aO ?aB ?aS ?aL ?_;(case aP=>exact rfl);(case aB=>exact aH3);(case aF=>exact(λ_ _=>trivial));(case aO=>exact aK9);(case aS=>exact(aAj aH3));(case aL=>have:=m2.out;omega);intro aWb w40 ho hb hg hat;rw[<-jV.out]at ho;have n_:=zA4 (aAx (g:=aD) (o:=.cells #[.int .i64 aE,.slice (some dO) aC.length aG] 25 (0,0)) zz0 hg (Kd.aEd bV.out aA.out (by decide))) (aAx (g:=bG) (o:=.cells #[.int .i64 ((aA2 aC aZ).f0),.int .i64 ((aA2 aC aZ).f1)] 73 (0,0)) aKa hg (Kd.aEd bV.out aI.out (by decide))) hb ho;clear aA aI HB bV;obtain⟨aA,aI,HB,cF⟩:=n_;clear ho hb hg hat;have nV:=aCg aI;have nU:=aCf aI;have nL:=aA0 aI.out 0;have nK:=aA0 aI.out 1;obtain⟨bHv,bCg,rK⟩:=Kd.aBe cF.out;subst rK;have aGt:0<=(bO:Int):=zdT zz4;have aGs:bO<(cX.length:Int):=zdT zz4;obtain⟨kT,aNh,gG⟩:=Kd.aCz (Kd.aAc cF.out).2.2 bO aGt aGs;cases aNh;replace aGt:=eq_true aGt;replace aGs:=eq_true aGs)|(go_at_call 115;(with_reducible refine(aBc.calls aKf _ _ cX ((aA2 aC aZ).f0) false _ ?side1 ?side2 A30.out).mono ?_);(case side1=>exact aYa);(case side2=>exact(Kd.aAc cF.out).2.1);rintro e w' ⟨rfl,⟨nd,rfl⟩⟩;(try first|exact⟨rfl,_,World.drewN_drewN _ _ _⟩|exact⟨rfl,_,Eq.trans (World.drewN_drewN _ _ _) (congrArg (World.drewN _) (Nat.add_assoc _ _ _))⟩))|((with_reducible refine aBk (b:=.append) (xs:=#[.tmp 54,.tmp 57]) rfl ?_);at_builtin;refine Kd.aD3 (Kd.int .i64) (w0:=w) w.heap.size rfl (.tmp 54) (.tmp 57) 42 3 (.int .i64 0) 8 rfl Try.underlying42 info3 rfl (by decide) (by omega) (.slice (some kT) cX.length bCg) cX ((aA2 aC aZ).f0) [.int .i64 ((aA2 aC aZ).f0)] (λ_=>True) (λ_=>False) rfl rfl ?aP (λ_ hk=>hk.elim) ?aF ?aO ?aB ?aS ?aL ?_;(case aP=>exact rfl);(case aB=>exact aH3);(case aF=>exact(λ_ _=>trivial));(case aO=>exact aVv);(case aS=>exact(aAj aH3));(case aL=>have:=uN.out;omega);intro bGp w43 ho hb hg hat;rw[<-q4.out]at ho;have n_:=zA4 (aAx (g:=aD) (o:=.cells #[.int .i64 aE,.slice (some dO) aC.length aG] 25 (0,0)) zz0 hg (Kd.aEd cF.out aA.out (by decide))) (aAx (g:=bG) (o:=.cells #[.int .i64 ((aA2 aC aZ).f0),.int .i64 ((aA2 aC aZ).f1)] 73 (0,0)) aKa hg (Kd.aEd cF.out aI.out (by decide))) hb ho;clear aA aI HB cF;obtain⟨aA,aI,HB,rA⟩:=n_;clear ho hb hg hat));try go_wp2_with (first|((with_reducible refine aBk (b:=.append) (xs:=#[.tmp 35,.tmp 38]) rfl ?_);at_builtin;refine Kd.aD3 (Kd.int .i64) (w0:=w) w.heap.size rfl (.tmp 35) (.tmp 38) 42 3 (.int .i64 0) 8 rfl Try.underlying42 info3 rfl (by decide) (by omega) u3 dR ((aA2 aC aZ).f1) [.int .i64 ((aA2 aC aZ).f1)] (λ_=>True) (λ_=>False) rfl rfl ?aP (λ_ hk=>hk.elim) ?aF ?aO ?aB ?aS ?aL ?_;(case aP=>exact rfl);(case aB=>exact aH3);(case aF=>exact(λ_ _=>trivial));(case aO=>exact aK9);(case aS=>exact(aAj aH3));(case aL=>have:=m2.out;omega);intro aWb w40 ho hb hg hat;rw[<-jV.out]at ho;have n_:=zA4 (aAx (g:=aD) (o:=.cells #[.int .i64 aE,.slice (some dO) aC.length aG] 25 (0,0)) zz0 hg (Kd.aEd bV.out aA.out (by decide))) (aAx (g:=bG) (o:=.cells #[.int .i64 ((aA2 aC aZ).f0),.int .i64 ((aA2 aC aZ).f1)] 73 (0,0)) aKa hg (Kd.aEd bV.out aI.out (by decide))) hb ho;clear aA aI HB bV;obtain⟨aA,aI,HB,cF⟩:=n_;clear ho hb hg hat;have nV:=aCg aI;have nU:=aCf aI;have nL:=aA0 aI.out 0;have nK:=aA0 aI.out 1;obtain⟨bHv,bCg,rK⟩:=Kd.aBe cF.out;subst rK;have aGt:0<=(bO:Int):=zdT zz4;have aGs:bO<(cX.length:Int):=zdT zz4;obtain⟨kT,aNh,gG⟩:=Kd.aCz (Kd.aAc cF.out).2.2 bO aGt aGs;cases aNh;replace aGt:=eq_true aGt;replace aGs:=eq_true aGs)|(go_at_call 115;(with_reducible refine(aBc.calls aKf _ _ cX ((aA2 aC aZ).f0) false _ ?side1 ?side2 A30.out).mono ?_);(case side1=>exact aYa);(case side2=>exact(Kd.aAc cF.out).2.1);rintro e w' ⟨rfl,⟨nd,rfl⟩⟩;(try first|exact⟨rfl,_,World.drewN_drewN _ _ _⟩|exact⟨rfl,_,Eq.trans (World.drewN_drewN _ _ _) (congrArg (World.drewN _) (Nat.add_assoc _ _ _))⟩))|((with_reducible refine aBk (b:=.append) (xs:=#[.tmp 54,.tmp 57]) rfl ?_);at_builtin;refine Kd.aD3 (Kd.int .i64) (w0:=w) w.heap.size rfl (.tmp 54) (.tmp 57) 42 3 (.int .i64 0) 8 rfl Try.underlying42 info3 rfl (by decide) (by omega) (.slice (some kT) cX.length bCg) cX ((aA2 aC aZ).f0) [.int .i64 ((aA2 aC aZ).f0)] (λ_=>True) (λ_=>False) rfl rfl ?aP (λ_ hk=>hk.elim) ?aF ?aO ?aB ?aS ?aL ?_;(case aP=>exact rfl);(case aB=>exact aH3);(case aF=>exact(λ_ _=>trivial));(case aO=>exact aVv);(case aS=>exact(aAj aH3));(case aL=>have:=uN.out;omega);intro bGp w43 ho hb hg hat;rw[<-q4.out]at ho;have n_:=zA4 (aAx (g:=aD) (o:=.cells #[.int .i64 aE,.slice (some dO) aC.length aG] 25 (0,0)) zz0 hg (Kd.aEd cF.out aA.out (by decide))) (aAx (g:=bG) (o:=.cells #[.int .i64 ((aA2 aC aZ).f0),.int .i64 ((aA2 aC aZ).f1)] 73 (0,0)) aKa hg (Kd.aEd cF.out aI.out (by decide))) hb ho;clear aA aI HB cF;obtain⟨aA,aI,HB,rA⟩:=n_;clear ho hb hg hat))));go_roundg aKf;(case measure=>have:=HK1.out;have:=HK2.out;have:=aSy.out;omega);case rel=>exact⟨(tD),(wrap64 (aZ+1)),zz5,H',⟨by have:=HK1.out;have:=HK2.out;have:=aSy.out;omega⟩,⟨by(with_reducible repeat(first|apply Kd.aAu|apply Kd.aAt|apply Kd.aB5));exact rA.out⟩,⟨zz0⟩,⟨aH3⟩⟩
       replace c25:=zdB c25;subst c25;rw[if_neg (show ¬ (false=true) by decide)]at H;by_cases c49:0<=bO;rotate_left
       ·rw[if_neg c49]at H;exact absurd H (by simp)
       rw[if_pos c49]at H;have O9:=zdY c49;clear c49;by_cases c50:bO<(dR.length:Int);rotate_left
       ·rw[if_neg c50]at H;exact absurd H (by simp)
       rw[if_pos c50]at H;have xK:=zdY c50;clear c50;by_cases c51:((aA2 aC aZ).f1)=(rd dR bO);rotate_left
       ·rw[if_neg c51]at H;have sP:(((aA2 aC aZ).f1)==(rd dR bO))=false:=beq_eq_false_iff_ne.mpr c51;have DZ:(((aA2 aC aZ).f1) != (rd dR bO))=true:=bne_iff_ne.mpr c51;have H':=zK_ H;clear H;have z7:=cS.out;have zI:=cN.out;have GP:=aCg aI;have GO:=aCf aI;have FP:=aA0 aI.out 0;have FO:=aA0 aI.out 1;obtain⟨bLt,bL8,yJ⟩:=Kd.aBe bV.out;subst yJ;have aU1:0<=(bO:Int):=zdT zz4;have aTz:bO<(dR.length:Int):=zdT zz4;obtain⟨qZ,e117,rY⟩:=Kd.aCz (Kd.aAc bV.out).2.2 bO aU1 aTz;cases e117;replace aU1:=eq_true aU1;replace aTz:=eq_true aTz;go_wp2;(repeat(go_quiet (fail);try go_wp2));go_roundg aKf;(case measure=>have:=HK1.out;have:=HK2.out;have:=aSy.out;omega);case rel=>exact⟨(dR),(wrap64 (aZ+1)),zz5,H',⟨by have:=HK1.out;have:=HK2.out;have:=aSy.out;omega⟩,⟨aK9⟩,⟨zz0⟩,⟨aH3⟩⟩
       rw[if_pos c51]at H;have sP:(((aA2 aC aZ).f1)==(rd dR bO))=true:=beq_iff_eq.mpr c51;have DZ:(((aA2 aC aZ).f1) != (rd dR bO))=false:=bne_eq_false_iff_eq.mpr c51;clear c51;obtain⟨oN,bFm,H⟩:=zO_ H;(try dsimp only at H);have A52:=zK_ bFm;clear bFm;by_cases c53:oN=true
       ·subst c53;rw[if_pos rfl]at H;have H':=zK_ H;clear H;have N7:=cS.out;have M2:=cN.out;have GT:=aCg aI;have GS:=aCf aI;have FT:=aA0 aI.out 0;have FS:=aA0 aI.out 1;obtain⟨bNk,bMv,LN⟩:=Kd.aBe bV.out;subst LN;have aU1:0<=(bO:Int):=zdT zz4;have aTz:bO<(dR.length:Int):=zdT zz4;obtain⟨qZ,e117,rY⟩:=Kd.aCz (Kd.aAc bV.out).2.2 bO aU1 aTz;cases e117;replace aU1:=eq_true aU1;replace aTz:=eq_true aTz;(go_wp2_with (first|(go_at_call 115;(with_reducible refine(aBc.calls aKf _ _ dR ((aA2 aC aZ).f0) true _ ?side1 ?side2 A52.out).mono ?_);(case side1=>exact bC4);(case side2=>exact(Kd.aAc bV.out).2.1);rintro e w' ⟨rfl,⟨nd,rfl⟩⟩;(try first|exact⟨rfl,_,World.drewN_drewN _ _ _⟩|exact⟨rfl,_,Eq.trans (World.drewN_drewN _ _ _) (congrArg (World.drewN _) (Nat.add_assoc _ _ _))⟩))));(repeat(go_quiet (first|(go_at_call 115;(with_reducible refine(aBc.calls aKf _ _ dR ((aA2 aC aZ).f0) true _ ?side1 ?side2 A52.out).mono ?_);(case side1=>exact bC4);(case side2=>exact(Kd.aAc bV.out).2.1);rintro e w' ⟨rfl,⟨nd,rfl⟩⟩;(try first|exact⟨rfl,_,World.drewN_drewN _ _ _⟩|exact⟨rfl,_,Eq.trans (World.drewN_drewN _ _ _) (congrArg (World.drewN _) (Nat.add_assoc _ _ _))⟩)));try go_wp2_with (first|(go_at_call 115;(with_reducible refine(aBc.calls aKf _ _ dR ((aA2 aC aZ).f0) true _ ?side1 ?side2 A52.out).mono ?_);(case side1=>exact bC4);(case side2=>exact(Kd.aAc bV.out).2.1);rintro e w' ⟨rfl,⟨nd,rfl⟩⟩;(try first|exact⟨rfl,_,World.drewN_drewN _ _ _⟩|exact⟨rfl,_,Eq.trans (World.drewN_drewN _ _ _) (congrArg (World.drewN _) (Nat.add_assoc _ _ _))⟩)))));go_roundg aKf;(case measure=>have:=HK1.out;have:=HK2.out;have:=aSy.out;omega);case rel=>exact⟨(dR),(wrap64 (aZ+1)),zz5,H',⟨by have:=HK1.out;have:=HK2.out;have:=aSy.out;omega⟩,⟨aK9⟩,⟨zz0⟩,⟨aH3⟩⟩
       replace c53:=zdB c53;subst c53;rw[if_neg (show ¬ (false=true) by decide)]at H;by_cases c57:dR.length<17592186044416;rotate_left
       ·rw[if_neg c57]at H;exact absurd H (by simp)
       rw[if_pos c57]at H;have uM:=zK_ c57;clear c57;obtain⟨mC,hy_⟩:∃ y_:List Int,y_=(dR++[((aA2 aC aZ).f0)]):=⟨_,rfl⟩;(replace H:(aAh.l1 aKf mC bO aC (aC.length:Int) (wrap64 (aZ+1)) aE aC)=some r:=zzY);have q3:=zK_ hy_;clear hy_;have H':=zK_ H;clear H;have z8:=cS.out;have zJ:=cN.out;have GR:=aCg aI;have GQ:=aCf aI;have FR:=aA0 aI.out 0;have FQ:=aA0 aI.out 1;obtain⟨bNj,bH8,LL⟩:=Kd.aBe bV.out;subst LL;have aU1:0<=(bO:Int):=zdT zz4;have aTz:bO<(dR.length:Int):=zdT zz4;obtain⟨qZ,e117,rY⟩:=Kd.aCz (Kd.aAc bV.out).2.2 bO aU1 aTz;cases e117;replace aU1:=eq_true aU1;replace aTz:=eq_true aTz;(go_wp2_with (first|(go_at_call 115;(with_reducible refine(aBc.calls aKf _ _ dR ((aA2 aC aZ).f0) false _ ?side1 ?side2 A52.out).mono ?_);(case side1=>exact bC4);(case side2=>exact(Kd.aAc bV.out).2.1);rintro e w' ⟨rfl,⟨nd,rfl⟩⟩;(try first|exact⟨rfl,_,World.drewN_drewN _ _ _⟩|exact⟨rfl,_,Eq.trans (World.drewN_drewN _ _ _) (congrArg (World.drewN _) (Nat.add_assoc _ _ _))⟩))|((with_reducible refine aBk (b:=.append) (xs:=#[.tmp 54,.tmp 57]) rfl ?_);at_builtin;refine Kd.aD3 (Kd.int .i64) (w0:=w) w.heap.size rfl (.tmp 54) (.tmp 57) 42 3 (.int .i64 0) 8 rfl Try.underlying42 info3 rfl (by decide) (by omega) (.slice (some qZ) dR.length bH8) dR ((aA2 aC aZ).f0) [.int .i64 ((aA2 aC aZ).f0)] (λ_=>True) (λ_=>False) rfl rfl ?aP (λ_ hk=>hk.elim) ?aF ?aO ?aB ?aS ?aL ?_;(case aP=>exact rfl);(case aB=>exact aH3);(case aF=>exact(λ_ _=>trivial));(case aO=>exact aK9);(case aS=>exact(aAj aH3));(case aL=>have:=uM.out;omega);intro bGo w61 ho hb hg hat;rw[<-q3.out]at ho;have n_:=zA4 (aAx (g:=aD) (o:=.cells #[.int .i64 aE,.slice (some dO) aC.length aG] 25 (0,0)) zz0 hg (Kd.aEd bV.out aA.out (by decide))) (aAx (g:=bG) (o:=.cells #[.int .i64 ((aA2 aC aZ).f0),.int .i64 ((aA2 aC aZ).f1)] 73 (0,0)) aKa hg (Kd.aEd bV.out aI.out (by decide))) hb ho;clear aA aI HB bV;obtain⟨aA,aI,HB,kV⟩:=n_;clear ho hb hg hat)));(repeat(go_quiet (first|(go_at_call 115;(with_reducible refine(aBc.calls aKf _ _ dR ((aA2 aC aZ).f0) false _ ?side1 ?side2 A52.out).mono ?_);(case side1=>exact bC4);(case side2=>exact(Kd.aAc bV.out).2.1);rintro e w' ⟨rfl,⟨nd,rfl⟩⟩;(try first|exact⟨rfl,_,World.drewN_drewN _ _ _⟩|exact⟨rfl,_,Eq.trans (World.drewN_drewN _ _ _) (congrArg (World.drewN _) (Nat.add_assoc _ _ _))⟩))|((with_reducible refine aBk (b:=.append) (xs:=#[.tmp 54,.tmp 57]) rfl ?_);at_builtin;refine Kd.aD3 (Kd.int .i64) (w0:=w) w.heap.size rfl (.tmp 54) (.tmp 57) 42 3 (.int .i64 0) 8 rfl Try.underlying42 info3 rfl (by decide) (by omega) (.slice (some qZ) dR.length bH8) dR ((aA2 aC aZ).f0) [.int .i64 ((aA2 aC aZ).f0)] (λ_=>True) (λ_=>False) rfl rfl ?aP (λ_ hk=>hk.elim) ?aF ?aO ?aB ?aS ?aL ?_;(case aP=>exact rfl);(case aB=>exact aH3);(case aF=>exact(λ_ _=>trivial));(case aO=>exact aK9);(case aS=>exact(aAj aH3));(case aL=>have:=uM.out;omega);intro bGo w61 ho hb hg hat;rw[<-q3.out]at ho;have n_:=zA4 (aAx (g:=aD) (o:=.cells #[.int .i64 aE,.slice (some dO) aC.length aG] 25 (0,0)) zz0 hg (Kd.aEd bV.out aA.out (by decide))) (aAx (g:=bG) (o:=.cells #[.int .i64 ((aA2 aC aZ).f0),.int .i64 ((aA2 aC aZ).f1)] 73 (0,0)) aKa hg (Kd.aEd bV.out aI.out (by decide))) hb ho;clear aA aI HB bV;obtain⟨aA,aI,HB,kV⟩:=n_;clear ho hb hg hat));try go_wp2_with (first|(go_at_call 115;(with_reducible refine(aBc.calls aKf _ _ dR ((aA2 aC aZ).f0) false _ ?side1 ?side2 A52.out).mono ?_);(case side1=>exact bC4);(case side2=>exact(Kd.aAc bV.out).2.1);rintro e w' ⟨rfl,⟨nd,rfl⟩⟩;(try first|exact⟨rfl,_,World.drewN_drewN _ _ _⟩|exact⟨rfl,_,Eq.trans (World.drewN_drewN _ _ _) (congrArg (World.drewN _) (Nat.add_assoc _ _ _))⟩))|((with_reducible refine aBk (b:=.append) (xs:=#[.tmp 54,.tmp 57]) rfl ?_);at_builtin;refine Kd.aD3 (Kd.int .i64) (w0:=w) w.heap.size rfl (.tmp 54) (.tmp 57) 42 3 (.int .i64 0) 8 rfl Try.underlying42 info3 rfl (by decide) (by omega) (.slice (some qZ) dR.length bH8) dR ((aA2 aC aZ).f0) [.int .i64 ((aA2 aC aZ).f0)] (λ_=>True) (λ_=>False) rfl rfl ?aP (λ_ hk=>hk.elim) ?aF ?aO ?aB ?aS ?aL ?_;(case aP=>exact rfl);(case aB=>exact aH3);(case aF=>exact(λ_ _=>trivial));(case aO=>exact aK9);(case aS=>exact(aAj aH3));(case aL=>have:=uM.out;omega);intro bGo w61 ho hb hg hat;rw[<-q3.out]at ho;have n_:=zA4 (aAx (g:=aD) (o:=.cells #[.int .i64 aE,.slice (some dO) aC.length aG] 25 (0,0)) zz0 hg (Kd.aEd bV.out aA.out (by decide))) (aAx (g:=bG) (o:=.cells #[.int .i64 ((aA2 aC aZ).f0),.int .i64 ((aA2 aC aZ).f1)] 73 (0,0)) aKa hg (Kd.aEd bV.out aI.out (by decide))) hb ho;clear aA aI HB bV;obtain⟨aA,aI,HB,kV⟩:=n_;clear ho hb hg hat))));go_roundg aKf;(case measure=>have:=HK1.out;have:=HK2.out;have:=aSy.out;omega);case rel=>exact⟨(mC),(wrap64 (aZ+1)),zz5,H',⟨by have:=HK1.out;have:=HK2.out;have:=aSy.out;omega⟩,⟨by(with_reducible repeat(first|apply Kd.aAu|apply Kd.aAt|apply Kd.aB5));exact kV.out⟩,⟨zz0⟩,⟨aH3⟩⟩
def aAo.l0:Nat->List (S73)->Int->Int->Int->List (S73)->Option (Bool)
 | 0,_,_,_,_,_=>none
 | k+1,x9,fK,eJ,aU,aM=>if eJ<fK then(if 0<=eJ then(if eJ<(x9.length:Int) then(if eJ>0 then(if 0<=(wrap64 (eJ-1)) then(if(wrap64 (eJ-1))<(aM.length:Int) then(if((aA2 x9 eJ).f0)<((aA2 aM (wrap64 (eJ-1))).f0) then(some false) else(if((aA2 x9 eJ).f0)=((aA2 aM (wrap64 (eJ-1))).f0) then(if((aA2 x9 eJ).f1)<((aA2 aM (wrap64 (eJ-1))).f1) then(some false) else(aAo.l0 k x9 fK (wrap64 (eJ+1)) aU aM)) else(aAo.l0 k x9 fK (wrap64 (eJ+1)) aU aM))) else(none)) else(none)) else(aAo.l0 k x9 fK (wrap64 (eJ+1)) aU aM)) else(none)) else(none)) else((aAh.f k aU aM).bind λfE=>(some ((fE.length:Int)==aU)))
def aAo.f (k:Nat) (aE:Int) (aC:List (S73)):Option (Bool):=(aB9.f k aE aC).bind λaX=>(if aX=true then(aAo.l0 k aC (aC.length:Int) 0 aE aC) else(some false))
theorem aAo.aBa:∀ k,(∀ y0 y1 y2 y3 y4,LeO (aAo.l0 k y0 y1 y2 y3 y4) (aAo.l0 (k+1) y0 y1 y2 y3 y4))
 | 0=>λ_ _ _ _ _ r h=>by simp[aAo.l0]at h
 | k+1=>by
  have ih0:=aAo.aBa k
  ·intro y0 y1 y2 y3 y4
   unfold aAo.l0
   exact bI2
theorem aAo.mono:∀ a0 a1 k,LeO (aAo.f k a0 a1) (aAo.f (k+1) a0 a1):=by
 intro a0 a1 k;have ih0:=aAo.aBa k;unfold aAo.f;exact bI2
def aAo.T6:Bool×List (List Nat×List Nat):=(true,[([],[]),([0],[0]),([1],[1]),([2],[2]),([3,2],[2,3]),([2],[2]),([5,2],[2,5]),([2],[2]),([7,2],[2,7]),([6,8,2],[2,6,8]),([9,2],[2,9]),([10,2],[2,10]),([4,11,2],[2,4,11]),([12,2,2],[2,12]),([13],[13]),([14,13],[13,14]),([13],[13]),([16,13],[13,16]),([13],[13]),([18,13],[13,18]),([17,19,13],[13,17,19]),([20,13],[13,20]),([21,13],[13,21]),([15,22,13],[13,15,22]),([23,13,13],[13,23]),([24],[24]),([25,24],[24,25]),([24],[24]),([27,24],[24,27]),([24],[24]),([29,24],[24,29]),([28,30,24],[24,28,30]),([31,24],[24,31]),([32,24],[24,32]),([26,33,24],[24,26,33]),([24,34,13],[13,24,34]),([13,35,2],[2,13,35]),([2,36],[2,36])])
def aAo.B6:List Nat:=[0,1,3,7,15,7,39,7,135,487,999,2023,4095,8191,16383,32767,16383,81919,16383,278527,999423,2047999,4145151,8388607,16777215,33554431,67108863,33554431,167772159,33554431,570425343,2046820351,4194303999,8489271295,17179869183,34359738367,68719476735,137438953471]
theorem aAo.tab6:aI2 .any (opsOf Try.f46 6)=aAo.T6:=by kernel_rfl
theorem aAo.aV7:aFh aAo.T6.2 aAo.B6=true:=by kernel_rfl
theorem aAo.calls (k:Nat) (aE:Int) (aQ:Option Addr) (aG:Nat) (aC:List (S73)) (r:Bool) (w:World) (hr0_1:Kd.C k73 w aQ aC.length aC) (hc0_1:aC.length<=aG) (h:aAo.f k aE aC=some r) :
  Calls Try.prog 46 #[.agg #[.int .i64 aE,.slice aQ aC.length aG]] w λe w'=>e = .returned (.bool r)/\Below w.heap.size w w':=by
 have aIh:=Try.underlying25;have aUl:=Try.underlying73;have b7:=zK_ hr0_1;have bY:=zK_ hc0_1;clear hr0_1 hc0_1;have HB:=zK_ (Below.refl w.heap.size w);have H:((aB9.f k aE aC).bind λaX=>(if aX=true then(aAo.l0 k aC (aC.length:Int) 0 aE aC) else(some false)))=some r:=h;clear h;obtain⟨aX,A20,H⟩:=zO_ H;(try dsimp only at H);have A2:=zK_ A20;clear A20;by_cases c3:aX=true;rotate_left
 ·replace c3:=zdB c3;subst c3;rw[if_neg (show ¬ (false=true) by decide)]at H;obtain rfl:=zdI H;go_enter Try.func46,Try.ntmps46;(go_wp2_with (first|((with_reducible refine aAw (N:=1) rfl ?_);refine aAq ?hg (N:=1) ?hd (cs:=#[.int .i64 aE,.slice aQ aC.length aG]) (t:=25) ?hr ?_;(case hd=>rfl);(case hg=>rfl);(case hr=>exact aDq);intro aD hg w47 hbox hb;have n_:=zA4 (aA3 zz2 hb) hbox (aE1:w.heap.size<=aD) (aE1:w.heap.size<=aD);clear HB;obtain⟨HB,aA,aDt,aDe⟩:=n_;clear hb hbox hg;have lQ:=aCg aA;have lP:=aCf aA;have lI:=aA0 aA.out 0;have lH:=aA0 aA.out 1)|((with_reducible refine aAa (f:=88) rfl ?_);refine aBg (some 6) rfl rfl Try.func88 (by kernel_rfl) rfl #[.agg #[.int .i64 aE,.slice aQ aC.length aG]] rfl zz3 ?_;(with_reducible refine(aB9.calls k aE _ _ aC false _ ?side1 ?side2 A2.out).mono ?_);(case side1=>exact zz7);(case side2=>exact bY.out);rintro e w49 ⟨rfl,hb⟩;refine⟨_,rfl,?_⟩;have n_:=zA2 (aA4 (g:=aD) (o:=.cells #[.int .i64 aE,.slice aQ aC.length aG] 25 (0,0)) zz0 hb) (aA3 zz1 hb);clear aA HB;obtain⟨aA,HB⟩:=n_;clear hb)));go_ret;exact⟨zz9,zz1⟩
 subst c3;rw[if_pos rfl]at H;have H':=zK_ H;clear H;go_enter Try.func46,Try.ntmps46;(go_wp2_with (first|((with_reducible refine aAw (N:=1) rfl ?_);refine aAq ?hg (N:=1) ?hd (cs:=#[.int .i64 aE,.slice aQ aC.length aG]) (t:=25) ?hr ?_;(case hd=>rfl);(case hg=>rfl);(case hr=>exact aDq);intro aD hg w4 hbox hb;have n_:=zA4 (aA3 zz2 hb) hbox (aE1:w.heap.size<=aD) (aE1:w.heap.size<=aD);clear HB;obtain⟨HB,aA,aDt,aDe⟩:=n_;clear hb hbox hg;have mG:=aCg aA;have mF:=aCf aA;have m9:=aA0 aA.out 0;have mE:=aA0 aA.out 1)|((with_reducible refine aAa (f:=88) rfl ?_);refine aBg (some 6) rfl rfl Try.func88 (by kernel_rfl) rfl #[.agg #[.int .i64 aE,.slice aQ aC.length aG]] rfl zz3 ?_;(with_reducible refine(aB9.calls k aE _ _ aC true _ ?side1 ?side2 A2.out).mono ?_);(case side1=>exact zz7);(case side2=>exact bY.out);rintro e w6 ⟨rfl,hb⟩;refine⟨_,rfl,?_⟩;have n_:=zA2 (aA4 (g:=aD) (o:=.cells #[.int .i64 aE,.slice aQ aC.length aG] 25 (0,0)) zz0 hb) (aA3 zz1 hb);clear aA HB;obtain⟨aA,HB⟩:=n_;clear hb;have iH:=aCg aA;have iG:=aCf aA;have iF:=aA0 aA.out 0;have iE:=aA0 aA.out 1)));(go_loopg [11] k (λkq v11 w'=>∃ (aT:Int),v11 = .int .i64 aT/\aA1 (aAo.l0 kq aC (aC.length:Int) aT aE aC=some r)/\aA1 (kq<=k)/\aA1 (w'.heap[aD]? = some (.cells #[.int .i64 aE,(.slice aQ aC.length aG)] 25 (0,0)))/\aA1 (Below w.heap.size w w')));case atStart=>exact⟨(0),zz5,H',⟨Nat.le_refl _⟩,⟨zz0⟩,⟨zz1⟩⟩
 case round =>
  clear H';(try clear p2);(try clear c3);(try clear c4);(try clear mG);(try clear mF);(try clear iH);(try clear iG);(try clear m9);(try clear mE);(try clear iF);(try clear iE);obtain⟨aT,rfl,HA,HK1,aA,HB⟩:=hrel
  cases gk with
  | zero=>exact absurd HA.out (by simp[aAo.l0])
  | succ k1 =>
   have H:=HA.out;clear HA;simp only[aAo.l0]at H;by_cases c8:aT<(aC.length:Int);rotate_left
   ·rw[if_neg c8]at H;have i3:=zdN c8;clear c8;obtain⟨fE,bJh,H⟩:=zO_ H;(try dsimp only at H);have A43:=zK_ bJh;clear bJh;obtain rfl:=zdI H;(try go_wp2);have n_:=zA2 (aA9 aA.out) (aB3 HB.out);clear aA HB;obtain⟨aA,HB⟩:=n_;refine aFy (n:=7) (S:=λw'=>w'.cell? ⟨aD,0,none⟩=some (.int .i64 aE)/\w'.cell? ⟨aD,1,none⟩=some (.slice aQ aC.length aG)) (ds:=[]) (zM 7 0) (by kernel_rfl) rfl rfl ⟨(aAs aA.out 0).trans rfl,(aAs aA.out 1).trans rfl⟩ (λhHeld=>?_);generalize wr.drew=w44 at aA HB hHeld ⊢;refine aN6 (i:=3) (N:=some 58) (v:=?_) (a':=?_) (zM 7 8) rfl rfl (by kernel_rfl) (λ_ _ _ h=>h) (Or.inl ⟨by rfl,?_⟩) ?_ ?_;rotate_left
    ·intro w';exact zzT
    rotate_left
    ·exact zzS
    refine aEc (i:=0) (N:=some 55) (v:=?_) (a':=?_) (zM 7 9) rfl rfl (by kernel_rfl) (λ_ _ _ h=>h) (Or.inl ⟨by rfl,?_⟩) hHeld ?_ ?_;rotate_left
    ·rintro w' ⟨s0,s1⟩;exact zzT
    rotate_left
    ·exact zzS
    refine aEc (i:=4) (N:=some 59) (v:=?_) (a':=?_) (zM 7 25) rfl rfl (by kernel_rfl) (λ_ _ _ h=>h) (Or.inl ⟨by rfl,?_⟩) hHeld ?_ ?_;rotate_left
    ·rintro w' ⟨s0,s1⟩;exact zzT
    rotate_left
    ·exact zzS
    refine aLu (i:=1) (N:=some 56) (zM 7 27) rfl rfl (by kernel_rfl) (by decide) (λK hK=>?_);refine aGd Try.func89 (by kernel_rfl) rfl #[.agg #[.int .i64 aE,.slice aQ aC.length aG]] (by rfl) rfl rfl zz3 ?_;(with_reducible refine(aAh.calls k1 aE _ _ aC fE _ ?side1 ?side2 A43.out).mono ?_);(case side1=>exact zz7);(case side2=>exact bY.out);rintro e w45 ⟨v109,rfl,ho0,hb⟩;refine⟨_,rfl,?_⟩;have n_:=zA3 (Kd.aCm ho0 (aAj zz1)) (aA4 (g:=aD) (o:=.cells #[.int .i64 aE,.slice aQ aC.length aG] 25 (0,0)) zz0 hb) (aA3 zz1 hb);clear aA HB;obtain⟨kC,aA,HB⟩:=n_;clear ho0 hb;obtain⟨bNl,bMw,DK⟩:=Kd.aBe kC.out;(first|subst DK|(injection DK with f1_ f2_ f3_;have f4_:=f1_.symm;have f5_:=f3_.symm;clear f1_ f2_ f3_;subst f4_;subst f5_));refine hK.out _ _ ⟨(aAs aA.out 0).trans rfl,(aAs aA.out 1).trans rfl⟩ (λhHeld=>?_);clear hK K;refine aEm (a':=?_) ?_ ?_;rotate_left
    ·show Act.put _ (some 56) _=_;exact zzS
    refine aN6 (i:=2) (N:=some 57) (v:=?_) (a':=?_) (zM 7 31) rfl rfl (by kernel_rfl) (λ_ _ _ h=>h) (Or.inl ⟨by rfl,?_⟩) ?_ ?_;rotate_left
    ·intro w';exact zzT
    rotate_left
    ·exact zzS
    refine aN6 (i:=5) (N:=some 60) (v:=?_) (a':=?_) (zM 7 63) rfl rfl (by kernel_rfl) (λ_ _ _ h=>h) (Or.inl ⟨by rfl,?_⟩) ?_ ?_;rotate_left
    ·intro w';exact zzT
    rotate_left
    ·exact zzS
    refine aN6 (i:=6) (N:=some 2) (v:=?_) (a':=?_) (zM 7 127) rfl rfl (by kernel_rfl) (λ_ _ _ h=>h) (Or.inl ⟨by rfl,?_⟩) ?_ ?_;rotate_left
    ·intro w';exact zzT
    rotate_left
    ·exact zzS
    refine aI3 (by kernel_rfl) ?_;(try go_wp2);go_ret;exact⟨zz9,zz1⟩
   rw[if_pos c8]at H;have i3:=zdY c8;clear c8;by_cases c9:0<=aT;rotate_left
   ·rw[if_neg c9]at H;exact absurd H (by simp)
   rw[if_pos c9]at H;have j6:=zdY c9;clear c9;by_cases c10:aT<(aC.length:Int);rotate_left
   ·rw[if_neg c10]at H;exact absurd H (by simp)
   rw[if_pos c10]at H;have gN:=zdY c10;clear c10;by_cases c11:aT>0;rotate_left
   ·rw[if_neg c11]at H;have oU:decide (0<aT)=false:=zdN c11;clear c11;have H':=zK_ H;clear H;have aF6:0<=(aT:Int):=zdT zz4;have aF5:aT<(aC.length:Int):=zdT zz4;obtain⟨bW,aJ1,bJ,bT⟩:=aDi b7.out aT aF6 aF5;cases aJ1;replace bJ:=(HB.out.cell (World.block_lt_of_cell? w _ bJ)).trans bJ;replace bT:=(HB.out.cell (World.block_lt_of_cell? w _ bT)).trans bT;replace aF6:=eq_true aF6;replace aF5:=eq_true aF5;(try go_wp2_with (first|((with_reducible refine aAw (N:=4) rfl ?_);refine aAq ?hg (N:=4) ?hd (cs:=#[.int .i64 0,.int .i64 0]) (t:=73) ?hr ?_;(case hd=>rfl);(case hg=>rfl);(case hr=>exact aDq);intro bC hg w38 hbox hb;have n_:=zA7 (aA4 (g:=aD) (o:=.cells #[.int .i64 aE,.slice (some bW) aC.length aG] 25 (0,0)) zz0 hb) (aA3 zz1 hb) hbox (aFb:w.heap.size<=bC) (aFb:w.heap.size<=bC) (aSw:aD≠bC) (aSv:bC≠aD);clear aA HB;obtain⟨aA,HB,bK,aLs,aK7,cD,cI⟩:=n_;clear hb hbox hg;have AD:=cI.out;have zR:=cD.out;have GV:=aCg bK;have GU:=aCf bK;have FV:=aA0 bK.out 0;have FU:=aA0 bK.out 1)));have n0_:aA1 (((w38.setCell ⟨bC,0,none⟩ (.int .i64 ((aA2 aC aT).f0))).setCell ⟨bC,1,none⟩ (.int .i64 ((aA2 aC aT).f1))).heap[aD]? = some (.cells #[.int .i64 aE,.slice (some bW) aC.length aG] 25 (0,0))):=⟨aZi⟩;have n1_:aA1 (((w38.setCell ⟨bC,0,none⟩ (.int .i64 ((aA2 aC aT).f0))).setCell ⟨bC,1,none⟩ (.int .i64 ((aA2 aC aT).f1))).heap[bC]? = some (.cells #[.int .i64 ((aA2 aC aT).f0),.int .i64 ((aA2 aC aT).f1)] 73 (0,0))):=⟨bCr⟩;have n2_:aA1 (Below w.heap.size w ((w38.setCell ⟨bC,0,none⟩ (.int .i64 ((aA2 aC aT).f0))).setCell ⟨bC,1,none⟩ (.int .i64 ((aA2 aC aT).f1)))):=⟨aNs⟩;(try clear aA);(try clear bK);(try clear HB);generalize ((w38.setCell ⟨bC,0,none⟩ (.int .i64 ((aA2 aC aT).f0))).setCell ⟨bC,1,none⟩ (.int .i64 ((aA2 aC aT).f1)))=w41 at n0_ n1_ n2_ ⊢;have aA:=n0_;have bK:=n1_;have HB:=n2_;clear n0_ n1_ n2_;have n_:=zA3 (aA9 aA.out) (aA9 bK.out) (aB3 HB.out);clear aA bK HB;obtain⟨aA,bK,HB⟩:=n_;refine aFy (n:=38) (S:=λw'=>True) (ds:=[]) (zM 38 0) (by kernel_rfl) rfl rfl trivial (λhHeld=>?_);refine aE7 aAo.tab6 aAo.aV7 (λHT_ HW_=>?_);generalize w41.drew=w42 at aA bK HB hHeld ⊢;refine zQ 0 16 (zM 38 1) ?_
    refine zQ 1 17 (zM 38 3) ?_
    refine zQ 2 18 (zM 38 7) ?_
    refine zU 3 19 (zM 38 15) rfl rfl HT_.out ?_ ?_ ?_;rotate_left
    ·exact zzS
    refine zU 4 20 (zM 38 31) rfl rfl HT_.out ?_ ?_ ?_;rotate_left
    ·exact zzS
    refine zU 5 21 (zM 38 63) rfl rfl HT_.out ?_ ?_ ?_;rotate_left
    ·exact zzS
    refine zU 6 22 (zM 38 127) rfl rfl HT_.out ?_ ?_ ?_;rotate_left
    ·exact zzS
    refine zU 7 23 (zM 38 255) rfl rfl HT_.out ?_ ?_ ?_;rotate_left
    ·exact zzS
    refine zU 8 24 (zM 38 511) rfl rfl HT_.out ?_ ?_ ?_;rotate_left
    ·exact zzS
    refine zU 9 25 (zM 38 1023) rfl rfl HT_.out ?_ ?_ ?_;rotate_left
    ·exact zzS
    refine zU 10 26 (zM 38 2047) rfl rfl HT_.out ?_ ?_ ?_;rotate_left
    ·exact zzS
    refine zU 11 27 (zM 38 4095) rfl rfl HT_.out ?_ ?_ ?_;rotate_left
    ·exact zzS
    refine zU 12 28 (zM 38 8191) rfl rfl HT_.out ?_ ?_ ?_;rotate_left
    ·exact zzS
    refine zU 13 29 (zM 38 16383) rfl rfl HT_.out ?_ ?_ ?_;rotate_left
    ·exact zzS
    refine zU 14 30 (zM 38 32767) rfl rfl HT_.out ?_ ?_ ?_;rotate_left
    ·exact zzS
    refine zU 15 31 (zM 38 65535) rfl rfl HT_.out ?_ ?_ ?_;rotate_left
    ·exact zzS
    refine zU 16 32 (zM 38 131071) rfl rfl HT_.out ?_ ?_ ?_;rotate_left
    ·exact zzS
    refine zU 17 33 (zM 38 262143) rfl rfl HT_.out ?_ ?_ ?_;rotate_left
    ·exact zzS
    refine zU 18 34 (zM 38 524287) rfl rfl HT_.out ?_ ?_ ?_;rotate_left
    ·exact zzS
    refine zU 19 35 (zM 38 1048575) rfl rfl HT_.out ?_ ?_ ?_;rotate_left
    ·exact zzS
    refine zU 20 36 (zM 38 2097151) rfl rfl HT_.out ?_ ?_ ?_;rotate_left
    ·exact zzS
    refine zU 21 37 (zM 38 4194303) rfl rfl HT_.out ?_ ?_ ?_;rotate_left
    ·exact zzS
    refine zU 22 38 (zM 38 8388607) rfl rfl HT_.out ?_ ?_ ?_;rotate_left
    ·exact zzS
    refine zU 23 39 (zM 38 16777215) rfl rfl HT_.out ?_ ?_ ?_;rotate_left
    ·exact zzS
    refine zU 24 40 (zM 38 33554431) rfl rfl HT_.out ?_ ?_ ?_;rotate_left
    ·exact zzS
    refine zU 25 41 (zM 38 67108863) rfl rfl HT_.out ?_ ?_ ?_;rotate_left
    ·exact zzS
    refine zU 26 42 (zM 38 134217727) rfl rfl HT_.out ?_ ?_ ?_;rotate_left
    ·exact zzS
    refine zU 27 43 (zM 38 268435455) rfl rfl HT_.out ?_ ?_ ?_;rotate_left
    ·exact zzS
    refine zU 28 44 (zM 38 536870911) rfl rfl HT_.out ?_ ?_ ?_;rotate_left
    ·exact zzS
    refine zU 29 45 (zM 38 1073741823) rfl rfl HT_.out ?_ ?_ ?_;rotate_left
    ·exact zzS
    refine zU 30 46 (zM 38 2147483647) rfl rfl HT_.out ?_ ?_ ?_;rotate_left
    ·exact zzS
    refine zU 31 47 (zM 38 4294967295) rfl rfl HT_.out ?_ ?_ ?_;rotate_left
    ·exact zzS
    refine zU 32 48 (zM 38 8589934591) rfl rfl HT_.out ?_ ?_ ?_;rotate_left
    ·exact zzS
    refine zU 33 49 (zM 38 17179869183) rfl rfl HT_.out ?_ ?_ ?_;rotate_left
    ·exact zzS
    refine zU 34 50 (zM 38 34359738367) rfl rfl HT_.out ?_ ?_ ?_;rotate_left
    ·exact zzS
    refine zU 35 51 (zM 38 68719476735) rfl rfl HT_.out ?_ ?_ ?_;rotate_left
    ·exact zzS
    refine zU 36 52 (zM 38 137438953471) rfl rfl HT_.out ?_ ?_ ?_;rotate_left
    ·exact zzS
    refine zQ 37 53 (zM 38 274877906943) ?_
    refine aI3 (aF7 HT_.out (by kernel_rfl)) ?_;(try go_wp2);go_roundg k1;(case measure=>have:=HK1.out;omega);case rel=>exact⟨(wrap64 (aT+1)),zz5,H',⟨aFc⟩,⟨zz0⟩,⟨aNs⟩⟩
   rw[if_pos c11]at H;have oU:decide (0<aT)=true:=zdY c11;clear c11;obtain⟨b5,l7⟩:∃ j_:Int,(wrap64 (aT-1))=j_:=⟨_,rfl⟩;(replace H:(if 0<=(b5) then(if(b5)<(aC.length:Int) then(if((aA2 aC aT).f0)<((aA2 aC (b5)).f0) then(some false) else(if((aA2 aC aT).f0)=((aA2 aC (b5)).f0) then(if((aA2 aC aT).f1)<((aA2 aC (b5)).f1) then(some false) else(aAo.l0 k1 aC (aC.length:Int) (wrap64 (aT+1)) aE aC)) else(aAo.l0 k1 aC (aC.length:Int) (wrap64 (aT+1)) aE aC))) else(none)) else(none))=some r:=by first|(rw[l7]at H;exact H)|(simp only[l7]at H ⊢;exact H));have KO:(IntKind.i64.wrap (aT-1))=b5:=(aF0 _).trans l7;by_cases c13:0<=(b5);rotate_left
   ·rw[if_neg c13]at H;exact absurd H (by simp)
   rw[if_pos c13]at H;have jU:=zdY c13;clear c13;by_cases c14:(b5)<(aC.length:Int);rotate_left
   ·rw[if_neg c14]at H;exact absurd H (by simp)
   rw[if_pos c14]at H;have jT:=zdY c14;clear c14;by_cases c15:((aA2 aC aT).f0)<((aA2 aC (b5)).f0)
   ·rw[if_pos c15]at H;have mW:=zdY c15;clear c15;obtain rfl:=zdI H;have aF6:0<=(aT:Int):=zdT zz4;have aF5:aT<(aC.length:Int):=zdT zz4;obtain⟨bW,aJ1,bJ,bT⟩:=aDi b7.out aT aF6 aF5;cases aJ1;replace bJ:=(HB.out.cell (World.block_lt_of_cell? w _ bJ)).trans bJ;replace bT:=(HB.out.cell (World.block_lt_of_cell? w _ bT)).trans bT;replace aF6:=eq_true aF6;replace aF5:=eq_true aF5;(try go_wp2_with (first|((with_reducible refine aAw (N:=4) rfl ?_);refine aAq ?hg (N:=4) ?hd (cs:=#[.int .i64 0,.int .i64 0]) (t:=73) ?hr ?_;(case hd=>rfl);(case hg=>rfl);(case hr=>exact aDq);intro bC hg w16 hbox hb;have n_:=zA7 (aA4 (g:=aD) (o:=.cells #[.int .i64 aE,.slice (some bW) aC.length aG] 25 (0,0)) zz0 hb) (aA3 zz1 hb) hbox (aFb:w.heap.size<=bC) (aFb:w.heap.size<=bC) (aSw:aD≠bC) (aSv:bC≠aD);clear aA HB;obtain⟨aA,HB,bK,aLs,aK7,cD,cI⟩:=n_;clear hb hbox hg;have OL:=cI.out;have NG:=cD.out;have pQ:=aCg bK;have pP:=aCf bK;have pE:=aA0 bK.out 0;have pD:=aA0 bK.out 1)));have n0_:aA1 (((w16.setCell ⟨bC,0,none⟩ (.int .i64 ((aA2 aC aT).f0))).setCell ⟨bC,1,none⟩ (.int .i64 ((aA2 aC aT).f1))).heap[aD]? = some (.cells #[.int .i64 aE,.slice (some bW) aC.length aG] 25 (0,0))):=⟨aZi⟩;have n1_:aA1 (((w16.setCell ⟨bC,0,none⟩ (.int .i64 ((aA2 aC aT).f0))).setCell ⟨bC,1,none⟩ (.int .i64 ((aA2 aC aT).f1))).heap[bC]? = some (.cells #[.int .i64 ((aA2 aC aT).f0),.int .i64 ((aA2 aC aT).f1)] 73 (0,0))):=⟨bCr⟩;have n2_:aA1 (Below w.heap.size w ((w16.setCell ⟨bC,0,none⟩ (.int .i64 ((aA2 aC aT).f0))).setCell ⟨bC,1,none⟩ (.int .i64 ((aA2 aC aT).f1)))):=⟨aNs⟩;(try clear aA);(try clear bK);(try clear HB);generalize ((w16.setCell ⟨bC,0,none⟩ (.int .i64 ((aA2 aC aT).f0))).setCell ⟨bC,1,none⟩ (.int .i64 ((aA2 aC aT).f1)))=w19 at n0_ n1_ n2_ ⊢;have aA:=n0_;have bK:=n1_;have HB:=n2_;clear n0_ n1_ n2_;have n_:=zA3 (aA9 aA.out) (aA9 bK.out) (aB3 HB.out);clear aA bK HB;obtain⟨aA,bK,HB⟩:=n_;have aJ7:0<=((b5):Int):=zdT zz4;have aJ6:(b5)<(aC.length:Int):=zdT zz4;obtain⟨dO,aSl,bZ,cT⟩:=aDi b7.out (b5) aJ7 aJ6;have hw105_1:=cT;have hw105_0:=bZ;obtain rfl:bW=dO:=(by injection aSl);replace bZ:=(HB.out.cell (World.block_lt_of_cell? w _ bZ)).trans bZ;replace cT:=(HB.out.cell (World.block_lt_of_cell? w _ cT)).trans cT;replace aJ7:=eq_true aJ7;replace aJ6:=eq_true aJ6;refine aFy (n:=38) (S:=λw'=>w'.cell? ⟨bC,0,none⟩=some (.int .i64 ((aA2 aC aT).f0))/\w'.cell? ⟨bC,1,none⟩=some (.int .i64 ((aA2 aC aT).f1))/\w'.cell? ⟨aD,0,none⟩=some (.int .i64 aE)/\w'.cell? ⟨aD,1,none⟩=some (.slice (some bW) aC.length aG)/\w'.cell? (bW.add (((b5)).toNat*2))=some (.int .i64 ((aA2 aC (b5)).f0))/\w'.cell? ⟨(bW.add (((b5)).toNat*2)).block,(bW.add (((b5)).toNat*2)).off+1,none⟩=some (.int .i64 ((aA2 aC (b5)).f1))) (ds:=[]) (zM 38 0) (by kernel_rfl) rfl rfl ⟨(aAs bK.out 0).trans rfl,(aAs bK.out 1).trans rfl,(aAs aA.out 0).trans rfl,(aAs aA.out 1).trans rfl,((HB.out.cell (World.block_lt_of_cell? w _ hw105_0)).trans hw105_0),((HB.out.cell (World.block_lt_of_cell? w _ hw105_1)).trans hw105_1)⟩ (λhHeld=>?_);refine aE7 aAo.tab6 aAo.aV7 (λHT_ HW_=>?_);generalize w19.drew=w20 at aA bK HB bZ cT hHeld ⊢;refine zQ 0 16 (zM 38 1) ?_
    refine zQ 1 17 (zM 38 3) ?_
    refine zQ 2 18 (zM 38 7) ?_
    refine zQ 3 19 (zM 38 15) ?_
    refine zQ 5 21 (zM 38 47) ?_
    refine zQ 7 23 (zM 38 175) ?_
    refine zQ 8 24 (zM 38 431) ?_
    refine aEc (i:=4) (N:=some 20) (v:=?_) (a':=?_) (zM 38 447) rfl rfl (aCp HT_.out HW_.out (by kernel_rfl)) (λ_ _ _ h=>h) (Or.inl ⟨by rfl,?_⟩) hHeld ?_ ?_;rotate_left
    ·rintro w' ⟨s0,s1,s2,s3,s4,s5⟩;exact zzT
    rotate_left
    ·exact zzS
    refine aEc (i:=6) (N:=some 22) (v:=?_) (a':=?_) (zM 38 511) rfl rfl (aCp HT_.out HW_.out (by kernel_rfl)) (λ_ _ _ h=>h) (Or.inl ⟨by rfl,?_⟩) hHeld ?_ ?_;rotate_left
    ·rintro w' ⟨s0,s1,s2,s3,s4,s5⟩;exact zzT
    rotate_left
    ·exact zzS
    refine zQ 9 25 (zM 38 1023) ?_
    refine zQ 10 26 (zM 38 2047) ?_
    refine aEc (i:=11) (N:=some 27) (v:=?_) (a':=?_) (zM 38 4095) rfl rfl (aCp HT_.out HW_.out (by kernel_rfl)) (λ_ _ _ h=>h) (Or.inl ⟨by rfl,?_⟩) hHeld ?_ ?_;rotate_left
    ·rintro w' ⟨s0,s1,s2,s3,s4,s5⟩;exact zzT
    rotate_left
    ·exact zzS
    refine zQ 12 28 (zM 38 8191) ?_
    refine zQ 13 29 (zM 38 16383) ?_
    refine zU 14 30 (zM 38 32767) rfl rfl HT_.out ?_ ?_ ?_;rotate_left
    ·exact zzS
    refine zU 15 31 (zM 38 65535) rfl rfl HT_.out ?_ ?_ ?_;rotate_left
    ·exact zzS
    refine zU 16 32 (zM 38 131071) rfl rfl HT_.out ?_ ?_ ?_;rotate_left
    ·exact zzS
    refine zU 17 33 (zM 38 262143) rfl rfl HT_.out ?_ ?_ ?_;rotate_left
    ·exact zzS
    refine zU 18 34 (zM 38 524287) rfl rfl HT_.out ?_ ?_ ?_;rotate_left
    ·exact zzS
    refine zU 19 35 (zM 38 1048575) rfl rfl HT_.out ?_ ?_ ?_;rotate_left
    ·exact zzS
    refine zU 20 36 (zM 38 2097151) rfl rfl HT_.out ?_ ?_ ?_;rotate_left
    ·exact zzS
    refine zU 21 37 (zM 38 4194303) rfl rfl HT_.out ?_ ?_ ?_;rotate_left
    ·exact zzS
    refine zU 22 38 (zM 38 8388607) rfl rfl HT_.out ?_ ?_ ?_;rotate_left
    ·exact zzS
    refine zU 23 39 (zM 38 16777215) rfl rfl HT_.out ?_ ?_ ?_;rotate_left
    ·exact zzS
    refine zU 24 40 (zM 38 33554431) rfl rfl HT_.out ?_ ?_ ?_;rotate_left
    ·exact zzS
    refine zU 25 41 (zM 38 67108863) rfl rfl HT_.out ?_ ?_ ?_;rotate_left
    ·exact zzS
    refine zU 26 42 (zM 38 134217727) rfl rfl HT_.out ?_ ?_ ?_;rotate_left
    ·exact zzS
    refine zU 27 43 (zM 38 268435455) rfl rfl HT_.out ?_ ?_ ?_;rotate_left
    ·exact zzS
    refine zU 28 44 (zM 38 536870911) rfl rfl HT_.out ?_ ?_ ?_;rotate_left
    ·exact zzS
    refine zU 29 45 (zM 38 1073741823) rfl rfl HT_.out ?_ ?_ ?_;rotate_left
    ·exact zzS
    refine zU 30 46 (zM 38 2147483647) rfl rfl HT_.out ?_ ?_ ?_;rotate_left
    ·exact zzS
    refine zU 31 47 (zM 38 4294967295) rfl rfl HT_.out ?_ ?_ ?_;rotate_left
    ·exact zzS
    refine zU 32 48 (zM 38 8589934591) rfl rfl HT_.out ?_ ?_ ?_;rotate_left
    ·exact zzS
    refine zU 33 49 (zM 38 17179869183) rfl rfl HT_.out ?_ ?_ ?_;rotate_left
    ·exact zzS
    refine zU 34 50 (zM 38 34359738367) rfl rfl HT_.out ?_ ?_ ?_;rotate_left
    ·exact zzS
    refine zU 35 51 (zM 38 68719476735) rfl rfl HT_.out ?_ ?_ ?_;rotate_left
    ·exact zzS
    refine zQ 36 52 (zM 38 137438953471) ?_
    refine zQ 37 53 (zM 38 274877906943) ?_
    refine aI3 (aF7 HT_.out (by kernel_rfl)) ?_;(try go_wp2);go_ret;exact⟨by first|rfl|(simp[aDd,aDc]<;>rfl)|(simp only[<-l7];first|rfl|(simp[aDd,aDc]<;>rfl))|(simp[*,aDd,aDc]<;>rfl),aNs⟩
   rw[if_neg c15]at H;have mW:=zdN c15;clear c15;by_cases c21:((aA2 aC aT).f0)=((aA2 aC (b5)).f0);rotate_left
   ·rw[if_neg c21]at H;have qR:(((aA2 aC aT).f0)==((aA2 aC (b5)).f0))=false:=beq_eq_false_iff_ne.mpr c21;have D7:(((aA2 aC aT).f0) != ((aA2 aC (b5)).f0))=true:=bne_iff_ne.mpr c21;have H':=zK_ H;clear H;have aF6:0<=(aT:Int):=zdT zz4;have aF5:aT<(aC.length:Int):=zdT zz4;obtain⟨bW,aJ1,bJ,bT⟩:=aDi b7.out aT aF6 aF5;cases aJ1;replace bJ:=(HB.out.cell (World.block_lt_of_cell? w _ bJ)).trans bJ;replace bT:=(HB.out.cell (World.block_lt_of_cell? w _ bT)).trans bT;replace aF6:=eq_true aF6;replace aF5:=eq_true aF5;(try go_wp2_with (first|((with_reducible refine aAw (N:=4) rfl ?_);refine aAq ?hg (N:=4) ?hd (cs:=#[.int .i64 0,.int .i64 0]) (t:=73) ?hr ?_;(case hd=>rfl);(case hg=>rfl);(case hr=>exact aDq);intro bC hg w33 hbox hb;have n_:=zA7 (aA4 (g:=aD) (o:=.cells #[.int .i64 aE,.slice (some bW) aC.length aG] 25 (0,0)) zz0 hb) (aA3 zz1 hb) hbox (aFb:w.heap.size<=bC) (aFb:w.heap.size<=bC) (aSw:aD≠bC) (aSv:bC≠aD);clear aA HB;obtain⟨aA,HB,bK,aLs,aK7,cD,cI⟩:=n_;clear hb hbox hg;have xG:=cI.out;have xC:=cD.out;have g8:=aCg bK;have g7:=aCf bK;have g6:=aA0 bK.out 0;have g5:=aA0 bK.out 1)));have n0_:aA1 (((w33.setCell ⟨bC,0,none⟩ (.int .i64 ((aA2 aC aT).f0))).setCell ⟨bC,1,none⟩ (.int .i64 ((aA2 aC aT).f1))).heap[aD]? = some (.cells #[.int .i64 aE,.slice (some bW) aC.length aG] 25 (0,0))):=⟨aZi⟩;have n1_:aA1 (((w33.setCell ⟨bC,0,none⟩ (.int .i64 ((aA2 aC aT).f0))).setCell ⟨bC,1,none⟩ (.int .i64 ((aA2 aC aT).f1))).heap[bC]? = some (.cells #[.int .i64 ((aA2 aC aT).f0),.int .i64 ((aA2 aC aT).f1)] 73 (0,0))):=⟨bCr⟩;have n2_:aA1 (Below w.heap.size w ((w33.setCell ⟨bC,0,none⟩ (.int .i64 ((aA2 aC aT).f0))).setCell ⟨bC,1,none⟩ (.int .i64 ((aA2 aC aT).f1)))):=⟨aNs⟩;(try clear aA);(try clear bK);(try clear HB);generalize ((w33.setCell ⟨bC,0,none⟩ (.int .i64 ((aA2 aC aT).f0))).setCell ⟨bC,1,none⟩ (.int .i64 ((aA2 aC aT).f1)))=w36 at n0_ n1_ n2_ ⊢;have aA:=n0_;have bK:=n1_;have HB:=n2_;clear n0_ n1_ n2_;have n_:=zA3 (aA9 aA.out) (aA9 bK.out) (aB3 HB.out);clear aA bK HB;obtain⟨aA,bK,HB⟩:=n_;have aJ7:0<=((b5):Int):=zdT zz4;have aJ6:(b5)<(aC.length:Int):=zdT zz4;obtain⟨dO,aSl,bZ,cT⟩:=aDi b7.out (b5) aJ7 aJ6;have hw105_1:=cT;have hw105_0:=bZ;obtain rfl:bW=dO:=(by injection aSl);replace bZ:=(HB.out.cell (World.block_lt_of_cell? w _ bZ)).trans bZ;replace cT:=(HB.out.cell (World.block_lt_of_cell? w _ cT)).trans cT;replace aJ7:=eq_true aJ7;replace aJ6:=eq_true aJ6;have aPn:0<=((b5):Int):=zdT zz4;have aPm:(b5)<(aC.length:Int):=zdT zz4;obtain⟨oJ,bB0,dW,eK⟩:=aDi b7.out (b5) aPn aPm;have hw106_1:=eK;have hw106_0:=dW;obtain rfl:bW=oJ:=(by injection bB0);replace dW:=(HB.out.cell (World.block_lt_of_cell? w _ dW)).trans dW;replace eK:=(HB.out.cell (World.block_lt_of_cell? w _ eK)).trans eK;replace aPn:=eq_true aPn;replace aPm:=eq_true aPm;refine aFy (n:=38) (S:=λw'=>w'.cell? ⟨bC,0,none⟩=some (.int .i64 ((aA2 aC aT).f0))/\w'.cell? ⟨bC,1,none⟩=some (.int .i64 ((aA2 aC aT).f1))/\w'.cell? ⟨aD,0,none⟩=some (.int .i64 aE)/\w'.cell? ⟨aD,1,none⟩=some (.slice (some bW) aC.length aG)/\w'.cell? (bW.add (((b5)).toNat*2))=some (.int .i64 ((aA2 aC (b5)).f0))/\w'.cell? ⟨(bW.add (((b5)).toNat*2)).block,(bW.add (((b5)).toNat*2)).off+1,none⟩=some (.int .i64 ((aA2 aC (b5)).f1))/\w'.cell? (bW.add (((b5)).toNat*2))=some (.int .i64 ((aA2 aC (b5)).f0))/\w'.cell? ⟨(bW.add (((b5)).toNat*2)).block,(bW.add (((b5)).toNat*2)).off+1,none⟩=some (.int .i64 ((aA2 aC (b5)).f1))) (ds:=[]) (zM 38 0) (by kernel_rfl) rfl rfl ⟨(aAs bK.out 0).trans rfl,(aAs bK.out 1).trans rfl,(aAs aA.out 0).trans rfl,(aAs aA.out 1).trans rfl,((HB.out.cell (World.block_lt_of_cell? w _ hw105_0)).trans hw105_0),((HB.out.cell (World.block_lt_of_cell? w _ hw105_1)).trans hw105_1),((HB.out.cell (World.block_lt_of_cell? w _ hw106_0)).trans hw106_0),((HB.out.cell (World.block_lt_of_cell? w _ hw106_1)).trans hw106_1)⟩ (λhHeld=>?_);refine aE7 aAo.tab6 aAo.aV7 (λHT_ HW_=>?_);generalize w36.drew=w37 at aA bK HB bZ cT dW eK hHeld ⊢;refine zQ 0 16 (zM 38 1) ?_
    refine zQ 1 17 (zM 38 3) ?_
    refine zQ 2 18 (zM 38 7) ?_
    refine zQ 3 19 (zM 38 15) ?_
    refine zQ 5 21 (zM 38 47) ?_
    refine zQ 7 23 (zM 38 175) ?_
    refine zQ 8 24 (zM 38 431) ?_
    refine aEc (i:=4) (N:=some 20) (v:=?_) (a':=?_) (zM 38 447) rfl rfl (aCp HT_.out HW_.out (by kernel_rfl)) (λ_ _ _ h=>h) (Or.inl ⟨by rfl,?_⟩) hHeld ?_ ?_;rotate_left
    ·rintro w' ⟨s0,s1,s2,s3,s4,s5,s6,s7⟩;exact zzT
    rotate_left
    ·exact zzS
    refine aEc (i:=6) (N:=some 22) (v:=?_) (a':=?_) (zM 38 511) rfl rfl (aCp HT_.out HW_.out (by kernel_rfl)) (λ_ _ _ h=>h) (Or.inl ⟨by rfl,?_⟩) hHeld ?_ ?_;rotate_left
    ·rintro w' ⟨s0,s1,s2,s3,s4,s5,s6,s7⟩;exact zzT
    rotate_left
    ·exact zzS
    refine zQ 9 25 (zM 38 1023) ?_
    refine zQ 10 26 (zM 38 2047) ?_
    refine aEc (i:=11) (N:=some 27) (v:=?_) (a':=?_) (zM 38 4095) rfl rfl (aCp HT_.out HW_.out (by kernel_rfl)) (λ_ _ _ h=>h) (Or.inl ⟨by rfl,?_⟩) hHeld ?_ ?_;rotate_left
    ·rintro w' ⟨s0,s1,s2,s3,s4,s5,s6,s7⟩;exact zzT
    rotate_left
    ·exact zzS
    refine zQ 12 28 (zM 38 8191) ?_
    refine zQ 13 29 (zM 38 16383) ?_
    refine zQ 14 30 (zM 38 32767) ?_
    refine zQ 16 32 (zM 38 98303) ?_
    refine zQ 18 34 (zM 38 360447) ?_
    refine zQ 19 35 (zM 38 884735) ?_
    refine aEc (i:=15) (N:=some 31) (v:=?_) (a':=?_) (zM 38 917503) rfl rfl (aCp HT_.out HW_.out (by kernel_rfl)) (λ_ _ _ h=>h) (Or.inl ⟨by rfl,?_⟩) hHeld ?_ ?_;rotate_left
    ·rintro w' ⟨s0,s1,s2,s3,s4,s5,s6,s7⟩;exact zzT
    rotate_left
    ·exact zzS
    refine aEc (i:=17) (N:=some 33) (v:=?_) (a':=?_) (zM 38 1048575) rfl rfl (aCp HT_.out HW_.out (by kernel_rfl)) (λ_ _ _ h=>h) (Or.inl ⟨by rfl,?_⟩) hHeld ?_ ?_;rotate_left
    ·rintro w' ⟨s0,s1,s2,s3,s4,s5,s6,s7⟩;exact zzT
    rotate_left
    ·exact zzS
    refine zQ 20 36 (zM 38 2097151) ?_
    refine zQ 21 37 (zM 38 4194303) ?_
    refine aEc (i:=22) (N:=some 38) (v:=?_) (a':=?_) (zM 38 8388607) rfl rfl (aCp HT_.out HW_.out (by kernel_rfl)) (λ_ _ _ h=>h) (Or.inl ⟨by rfl,?_⟩) hHeld ?_ ?_;rotate_left
    ·rintro w' ⟨s0,s1,s2,s3,s4,s5,s6,s7⟩;exact zzT
    rotate_left
    ·exact zzS
    refine zQ 23 39 (zM 38 16777215) ?_
    refine zQ 24 40 (zM 38 33554431) ?_
    refine zU 25 41 (zM 38 67108863) rfl rfl HT_.out ?_ ?_ ?_;rotate_left
    ·exact zzS
    refine zU 26 42 (zM 38 134217727) rfl rfl HT_.out ?_ ?_ ?_;rotate_left
    ·exact zzS
    refine zU 27 43 (zM 38 268435455) rfl rfl HT_.out ?_ ?_ ?_;rotate_left
    ·exact zzS
    refine zU 28 44 (zM 38 536870911) rfl rfl HT_.out ?_ ?_ ?_;rotate_left
    ·exact zzS
    refine zU 29 45 (zM 38 1073741823) rfl rfl HT_.out ?_ ?_ ?_;rotate_left
    ·exact zzS
    refine zU 30 46 (zM 38 2147483647) rfl rfl HT_.out ?_ ?_ ?_;rotate_left
    ·exact zzS
    refine zU 31 47 (zM 38 4294967295) rfl rfl HT_.out ?_ ?_ ?_;rotate_left
    ·exact zzS
    refine zU 32 48 (zM 38 8589934591) rfl rfl HT_.out ?_ ?_ ?_;rotate_left
    ·exact zzS
    refine zU 33 49 (zM 38 17179869183) rfl rfl HT_.out ?_ ?_ ?_;rotate_left
    ·exact zzS
    refine zU 34 50 (zM 38 34359738367) rfl rfl HT_.out ?_ ?_ ?_;rotate_left
    ·exact zzS
    refine zQ 35 51 (zM 38 68719476735) ?_
    refine zQ 36 52 (zM 38 137438953471) ?_
    refine zQ 37 53 (zM 38 274877906943) ?_
    refine aI3 (aF7 HT_.out (by kernel_rfl)) ?_;(try go_wp2);go_roundg k1;(case measure=>have:=HK1.out;omega);case rel=>exact⟨(wrap64 (aT+1)),zz5,H',⟨aFc⟩,⟨zz0⟩,⟨aNs⟩⟩
   rw[if_pos c21]at H;have qR:(((aA2 aC aT).f0)==((aA2 aC (b5)).f0))=true:=beq_iff_eq.mpr c21;have D7:(((aA2 aC aT).f0) != ((aA2 aC (b5)).f0))=false:=bne_eq_false_iff_eq.mpr c21;clear c21;by_cases c22:((aA2 aC aT).f1)<((aA2 aC (b5)).f1)
   ·rw[if_pos c22]at H;have sS:=zdY c22;clear c22;obtain rfl:=zdI H;have aF6:0<=(aT:Int):=zdT zz4;have aF5:aT<(aC.length:Int):=zdT zz4;obtain⟨bW,aJ1,bJ,bT⟩:=aDi b7.out aT aF6 aF5;cases aJ1;replace bJ:=(HB.out.cell (World.block_lt_of_cell? w _ bJ)).trans bJ;replace bT:=(HB.out.cell (World.block_lt_of_cell? w _ bT)).trans bT;replace aF6:=eq_true aF6;replace aF5:=eq_true aF5;(try go_wp2_with (first|((with_reducible refine aAw (N:=4) rfl ?_);refine aAq ?hg (N:=4) ?hd (cs:=#[.int .i64 0,.int .i64 0]) (t:=73) ?hr ?_;(case hd=>rfl);(case hg=>rfl);(case hr=>exact aDq);intro bC hg w23 hbox hb;have n_:=zA7 (aA4 (g:=aD) (o:=.cells #[.int .i64 aE,.slice (some bW) aC.length aG] 25 (0,0)) zz0 hb) (aA3 zz1 hb) hbox (aFb:w.heap.size<=bC) (aFb:w.heap.size<=bC) (aSw:aD≠bC) (aSv:bC≠aD);clear aA HB;obtain⟨aA,HB,bK,aLs,aK7,cD,cI⟩:=n_;clear hb hbox hg;have OH:=cI.out;have NC:=cD.out;have f3:=aCg bK;have fZ:=aCf bK;have fW:=aA0 bK.out 0;have fV:=aA0 bK.out 1)));have n0_:aA1 (((w23.setCell ⟨bC,0,none⟩ (.int .i64 ((aA2 aC aT).f0))).setCell ⟨bC,1,none⟩ (.int .i64 ((aA2 aC aT).f1))).heap[aD]? = some (.cells #[.int .i64 aE,.slice (some bW) aC.length aG] 25 (0,0))):=⟨aZi⟩;have n1_:aA1 (((w23.setCell ⟨bC,0,none⟩ (.int .i64 ((aA2 aC aT).f0))).setCell ⟨bC,1,none⟩ (.int .i64 ((aA2 aC aT).f1))).heap[bC]? = some (.cells #[.int .i64 ((aA2 aC aT).f0),.int .i64 ((aA2 aC aT).f1)] 73 (0,0))):=⟨bCr⟩;have n2_:aA1 (Below w.heap.size w ((w23.setCell ⟨bC,0,none⟩ (.int .i64 ((aA2 aC aT).f0))).setCell ⟨bC,1,none⟩ (.int .i64 ((aA2 aC aT).f1)))):=⟨aNs⟩;(try clear aA);(try clear bK);(try clear HB);generalize ((w23.setCell ⟨bC,0,none⟩ (.int .i64 ((aA2 aC aT).f0))).setCell ⟨bC,1,none⟩ (.int .i64 ((aA2 aC aT).f1)))=w26 at n0_ n1_ n2_ ⊢;have aA:=n0_;have bK:=n1_;have HB:=n2_;clear n0_ n1_ n2_;have n_:=zA3 (aA9 aA.out) (aA9 bK.out) (aB3 HB.out);clear aA bK HB;obtain⟨aA,bK,HB⟩:=n_;have aJ7:0<=((b5):Int):=zdT zz4;have aJ6:(b5)<(aC.length:Int):=zdT zz4;obtain⟨dO,aSl,bZ,cT⟩:=aDi b7.out (b5) aJ7 aJ6;have hw105_1:=cT;have hw105_0:=bZ;obtain rfl:bW=dO:=(by injection aSl);replace bZ:=(HB.out.cell (World.block_lt_of_cell? w _ bZ)).trans bZ;replace cT:=(HB.out.cell (World.block_lt_of_cell? w _ cT)).trans cT;replace aJ7:=eq_true aJ7;replace aJ6:=eq_true aJ6;have aPn:0<=((b5):Int):=zdT zz4;have aPm:(b5)<(aC.length:Int):=zdT zz4;obtain⟨oJ,bB0,dW,eK⟩:=aDi b7.out (b5) aPn aPm;have hw106_1:=eK;have hw106_0:=dW;obtain rfl:bW=oJ:=(by injection bB0);replace dW:=(HB.out.cell (World.block_lt_of_cell? w _ dW)).trans dW;replace eK:=(HB.out.cell (World.block_lt_of_cell? w _ eK)).trans eK;replace aPn:=eq_true aPn;replace aPm:=eq_true aPm;have aPc:0<=((b5):Int):=zdT zz4;have aPb:(b5)<(aC.length:Int):=zdT zz4;obtain⟨mY,bAz,dI,gY⟩:=aDi b7.out (b5) aPc aPb;have hw107_1:=gY;have hw107_0:=dI;obtain rfl:bW=mY:=(by injection bAz);replace dI:=(HB.out.cell (World.block_lt_of_cell? w _ dI)).trans dI;replace gY:=(HB.out.cell (World.block_lt_of_cell? w _ gY)).trans gY;replace aPc:=eq_true aPc;replace aPb:=eq_true aPb;refine aFy (n:=38) (S:=λw'=>w'.cell? ⟨bC,0,none⟩=some (.int .i64 ((aA2 aC aT).f0))/\w'.cell? ⟨bC,1,none⟩=some (.int .i64 ((aA2 aC aT).f1))/\w'.cell? ⟨aD,0,none⟩=some (.int .i64 aE)/\w'.cell? ⟨aD,1,none⟩=some (.slice (some bW) aC.length aG)/\w'.cell? (bW.add (((b5)).toNat*2))=some (.int .i64 ((aA2 aC (b5)).f0))/\w'.cell? ⟨(bW.add (((b5)).toNat*2)).block,(bW.add (((b5)).toNat*2)).off+1,none⟩=some (.int .i64 ((aA2 aC (b5)).f1))/\w'.cell? (bW.add (((b5)).toNat*2))=some (.int .i64 ((aA2 aC (b5)).f0))/\w'.cell? ⟨(bW.add (((b5)).toNat*2)).block,(bW.add (((b5)).toNat*2)).off+1,none⟩=some (.int .i64 ((aA2 aC (b5)).f1))/\w'.cell? (bW.add (((b5)).toNat*2))=some (.int .i64 ((aA2 aC (b5)).f0))/\w'.cell? ⟨(bW.add (((b5)).toNat*2)).block,(bW.add (((b5)).toNat*2)).off+1,none⟩=some (.int .i64 ((aA2 aC (b5)).f1))) (ds:=[]) (zM 38 0) (by kernel_rfl) rfl rfl ⟨(aAs bK.out 0).trans rfl,(aAs bK.out 1).trans rfl,(aAs aA.out 0).trans rfl,(aAs aA.out 1).trans rfl,((HB.out.cell (World.block_lt_of_cell? w _ hw105_0)).trans hw105_0),((HB.out.cell (World.block_lt_of_cell? w _ hw105_1)).trans hw105_1),((HB.out.cell (World.block_lt_of_cell? w _ hw106_0)).trans hw106_0),((HB.out.cell (World.block_lt_of_cell? w _ hw106_1)).trans hw106_1),((HB.out.cell (World.block_lt_of_cell? w _ hw107_0)).trans hw107_0),((HB.out.cell (World.block_lt_of_cell? w _ hw107_1)).trans hw107_1)⟩ (λhHeld=>?_);refine aE7 aAo.tab6 aAo.aV7 (λHT_ HW_=>?_);generalize w26.drew=w27 at aA bK HB bZ cT dW eK dI gY hHeld ⊢;refine zQ 0 16 (zM 38 1) ?_
    refine zQ 1 17 (zM 38 3) ?_
    refine zQ 2 18 (zM 38 7) ?_
    refine zQ 3 19 (zM 38 15) ?_
    refine zQ 5 21 (zM 38 47) ?_
    refine zQ 7 23 (zM 38 175) ?_
    refine zQ 8 24 (zM 38 431) ?_
    refine aEc (i:=4) (N:=some 20) (v:=?_) (a':=?_) (zM 38 447) rfl rfl (aCp HT_.out HW_.out (by kernel_rfl)) (λ_ _ _ h=>h) (Or.inl ⟨by rfl,?_⟩) hHeld ?_ ?_;rotate_left
    ·rintro w' ⟨s0,s1,s2,s3,s4,s5,s6,s7,s8,s9⟩;exact zzT
    rotate_left
    ·exact zzS
    refine aEc (i:=6) (N:=some 22) (v:=?_) (a':=?_) (zM 38 511) rfl rfl (aCp HT_.out HW_.out (by kernel_rfl)) (λ_ _ _ h=>h) (Or.inl ⟨by rfl,?_⟩) hHeld ?_ ?_;rotate_left
    ·rintro w' ⟨s0,s1,s2,s3,s4,s5,s6,s7,s8,s9⟩;exact zzT
    rotate_left
    ·exact zzS
    refine zQ 9 25 (zM 38 1023) ?_
    refine zQ 10 26 (zM 38 2047) ?_
    refine aEc (i:=11) (N:=some 27) (v:=?_) (a':=?_) (zM 38 4095) rfl rfl (aCp HT_.out HW_.out (by kernel_rfl)) (λ_ _ _ h=>h) (Or.inl ⟨by rfl,?_⟩) hHeld ?_ ?_;rotate_left
    ·rintro w' ⟨s0,s1,s2,s3,s4,s5,s6,s7,s8,s9⟩;exact zzT
    rotate_left
    ·exact zzS
    refine zQ 12 28 (zM 38 8191) ?_
    refine zQ 13 29 (zM 38 16383) ?_
    refine zQ 14 30 (zM 38 32767) ?_
    refine zQ 16 32 (zM 38 98303) ?_
    refine zQ 18 34 (zM 38 360447) ?_
    refine zQ 19 35 (zM 38 884735) ?_
    refine aEc (i:=15) (N:=some 31) (v:=?_) (a':=?_) (zM 38 917503) rfl rfl (aCp HT_.out HW_.out (by kernel_rfl)) (λ_ _ _ h=>h) (Or.inl ⟨by rfl,?_⟩) hHeld ?_ ?_;rotate_left
    ·rintro w' ⟨s0,s1,s2,s3,s4,s5,s6,s7,s8,s9⟩;exact zzT
    rotate_left
    ·exact zzS
    refine aEc (i:=17) (N:=some 33) (v:=?_) (a':=?_) (zM 38 1048575) rfl rfl (aCp HT_.out HW_.out (by kernel_rfl)) (λ_ _ _ h=>h) (Or.inl ⟨by rfl,?_⟩) hHeld ?_ ?_;rotate_left
    ·rintro w' ⟨s0,s1,s2,s3,s4,s5,s6,s7,s8,s9⟩;exact zzT
    rotate_left
    ·exact zzS
    refine zQ 20 36 (zM 38 2097151) ?_
    refine zQ 21 37 (zM 38 4194303) ?_
    refine aEc (i:=22) (N:=some 38) (v:=?_) (a':=?_) (zM 38 8388607) rfl rfl (aCp HT_.out HW_.out (by kernel_rfl)) (λ_ _ _ h=>h) (Or.inl ⟨by rfl,?_⟩) hHeld ?_ ?_;rotate_left
    ·rintro w' ⟨s0,s1,s2,s3,s4,s5,s6,s7,s8,s9⟩;exact zzT
    rotate_left
    ·exact zzS
    refine zQ 23 39 (zM 38 16777215) ?_
    refine zQ 24 40 (zM 38 33554431) ?_
    refine zQ 25 41 (zM 38 67108863) ?_
    refine zQ 27 43 (zM 38 201326591) ?_
    refine zQ 29 45 (zM 38 738197503) ?_
    refine zQ 30 46 (zM 38 1811939327) ?_
    refine aEc (i:=26) (N:=some 42) (v:=?_) (a':=?_) (zM 38 1879048191) rfl rfl (aCp HT_.out HW_.out (by kernel_rfl)) (λ_ _ _ h=>h) (Or.inl ⟨by rfl,?_⟩) hHeld ?_ ?_;rotate_left
    ·rintro w' ⟨s0,s1,s2,s3,s4,s5,s6,s7,s8,s9⟩;exact zzT
    rotate_left
    ·exact zzS
    refine aEc (i:=28) (N:=some 44) (v:=?_) (a':=?_) (zM 38 2147483647) rfl rfl (aCp HT_.out HW_.out (by kernel_rfl)) (λ_ _ _ h=>h) (Or.inl ⟨by rfl,?_⟩) hHeld ?_ ?_;rotate_left
    ·rintro w' ⟨s0,s1,s2,s3,s4,s5,s6,s7,s8,s9⟩;exact zzT
    rotate_left
    ·exact zzS
    refine zQ 31 47 (zM 38 4294967295) ?_
    refine zQ 32 48 (zM 38 8589934591) ?_
    refine aEc (i:=33) (N:=some 49) (v:=?_) (a':=?_) (zM 38 17179869183) rfl rfl (aCp HT_.out HW_.out (by kernel_rfl)) (λ_ _ _ h=>h) (Or.inl ⟨by rfl,?_⟩) hHeld ?_ ?_;rotate_left
    ·rintro w' ⟨s0,s1,s2,s3,s4,s5,s6,s7,s8,s9⟩;exact zzT
    rotate_left
    ·exact zzS
    refine zQ 34 50 (zM 38 34359738367) ?_
    refine zQ 35 51 (zM 38 68719476735) ?_
    refine zQ 36 52 (zM 38 137438953471) ?_
    refine zQ 37 53 (zM 38 274877906943) ?_
    refine aI3 (aF7 HT_.out (by kernel_rfl)) ?_;(try go_wp2);go_ret;exact⟨by first|rfl|(simp[aDd,aDc]<;>rfl)|(simp only[<-l7];first|rfl|(simp[aDd,aDc]<;>rfl))|(simp[*,aDd,aDc]<;>rfl),aNs⟩
   rw[if_neg c22]at H;have sS:=zdN c22;clear c22;have H':=zK_ H;clear H;have aF6:0<=(aT:Int):=zdT zz4;have aF5:aT<(aC.length:Int):=zdT zz4;obtain⟨bW,aJ1,bJ,bT⟩:=aDi b7.out aT aF6 aF5;cases aJ1;replace bJ:=(HB.out.cell (World.block_lt_of_cell? w _ bJ)).trans bJ;replace bT:=(HB.out.cell (World.block_lt_of_cell? w _ bT)).trans bT;replace aF6:=eq_true aF6;replace aF5:=eq_true aF5;(try go_wp2_with (first|((with_reducible refine aAw (N:=4) rfl ?_);refine aAq ?hg (N:=4) ?hd (cs:=#[.int .i64 0,.int .i64 0]) (t:=73) ?hr ?_;(case hd=>rfl);(case hg=>rfl);(case hr=>exact aDq);intro bC hg w28 hbox hb;have n_:=zA7 (aA4 (g:=aD) (o:=.cells #[.int .i64 aE,.slice (some bW) aC.length aG] 25 (0,0)) zz0 hb) (aA3 zz1 hb) hbox (aFb:w.heap.size<=bC) (aFb:w.heap.size<=bC) (aSw:aD≠bC) (aSv:bC≠aD);clear aA HB;obtain⟨aA,HB,bK,aLs,aK7,cD,cI⟩:=n_;clear hb hbox hg;have AF:=cI.out;have zT:=cD.out;have mT:=aCg bK;have mS:=aCf bK;have mP:=aA0 bK.out 0;have mO:=aA0 bK.out 1)));have n0_:aA1 (((w28.setCell ⟨bC,0,none⟩ (.int .i64 ((aA2 aC aT).f0))).setCell ⟨bC,1,none⟩ (.int .i64 ((aA2 aC aT).f1))).heap[aD]? = some (.cells #[.int .i64 aE,.slice (some bW) aC.length aG] 25 (0,0))):=⟨aZi⟩;have n1_:aA1 (((w28.setCell ⟨bC,0,none⟩ (.int .i64 ((aA2 aC aT).f0))).setCell ⟨bC,1,none⟩ (.int .i64 ((aA2 aC aT).f1))).heap[bC]? = some (.cells #[.int .i64 ((aA2 aC aT).f0),.int .i64 ((aA2 aC aT).f1)] 73 (0,0))):=⟨bCr⟩;have n2_:aA1 (Below w.heap.size w ((w28.setCell ⟨bC,0,none⟩ (.int .i64 ((aA2 aC aT).f0))).setCell ⟨bC,1,none⟩ (.int .i64 ((aA2 aC aT).f1)))):=⟨aNs⟩;(try clear aA);(try clear bK);(try clear HB);generalize ((w28.setCell ⟨bC,0,none⟩ (.int .i64 ((aA2 aC aT).f0))).setCell ⟨bC,1,none⟩ (.int .i64 ((aA2 aC aT).f1)))=w31 at n0_ n1_ n2_ ⊢;have aA:=n0_;have bK:=n1_;have HB:=n2_;clear n0_ n1_ n2_;have n_:=zA3 (aA9 aA.out) (aA9 bK.out) (aB3 HB.out);clear aA bK HB;obtain⟨aA,bK,HB⟩:=n_;have aJ7:0<=((b5):Int):=zdT zz4;have aJ6:(b5)<(aC.length:Int):=zdT zz4;obtain⟨dO,aSl,bZ,cT⟩:=aDi b7.out (b5) aJ7 aJ6;have hw105_1:=cT;have hw105_0:=bZ;obtain rfl:bW=dO:=(by injection aSl);replace bZ:=(HB.out.cell (World.block_lt_of_cell? w _ bZ)).trans bZ;replace cT:=(HB.out.cell (World.block_lt_of_cell? w _ cT)).trans cT;replace aJ7:=eq_true aJ7;replace aJ6:=eq_true aJ6;have aPn:0<=((b5):Int):=zdT zz4;have aPm:(b5)<(aC.length:Int):=zdT zz4;obtain⟨oJ,bB0,dW,eK⟩:=aDi b7.out (b5) aPn aPm;have hw106_1:=eK;have hw106_0:=dW;obtain rfl:bW=oJ:=(by injection bB0);replace dW:=(HB.out.cell (World.block_lt_of_cell? w _ dW)).trans dW;replace eK:=(HB.out.cell (World.block_lt_of_cell? w _ eK)).trans eK;replace aPn:=eq_true aPn;replace aPm:=eq_true aPm;have aPc:0<=((b5):Int):=zdT zz4;have aPb:(b5)<(aC.length:Int):=zdT zz4;obtain⟨mY,bAz,dI,gY⟩:=aDi b7.out (b5) aPc aPb;have hw107_1:=gY;have hw107_0:=dI;obtain rfl:bW=mY:=(by injection bAz);replace dI:=(HB.out.cell (World.block_lt_of_cell? w _ dI)).trans dI;replace gY:=(HB.out.cell (World.block_lt_of_cell? w _ gY)).trans gY;replace aPc:=eq_true aPc;replace aPb:=eq_true aPb;refine aFy (n:=38) (S:=λw'=>w'.cell? ⟨bC,0,none⟩=some (.int .i64 ((aA2 aC aT).f0))/\w'.cell? ⟨bC,1,none⟩=some (.int .i64 ((aA2 aC aT).f1))/\w'.cell? ⟨aD,0,none⟩=some (.int .i64 aE)/\w'.cell? ⟨aD,1,none⟩=some (.slice (some bW) aC.length aG)/\w'.cell? (bW.add (((b5)).toNat*2))=some (.int .i64 ((aA2 aC (b5)).f0))/\w'.cell? ⟨(bW.add (((b5)).toNat*2)).block,(bW.add (((b5)).toNat*2)).off+1,none⟩=some (.int .i64 ((aA2 aC (b5)).f1))/\w'.cell? (bW.add (((b5)).toNat*2))=some (.int .i64 ((aA2 aC (b5)).f0))/\w'.cell? ⟨(bW.add (((b5)).toNat*2)).block,(bW.add (((b5)).toNat*2)).off+1,none⟩=some (.int .i64 ((aA2 aC (b5)).f1))/\w'.cell? (bW.add (((b5)).toNat*2))=some (.int .i64 ((aA2 aC (b5)).f0))/\w'.cell? ⟨(bW.add (((b5)).toNat*2)).block,(bW.add (((b5)).toNat*2)).off+1,none⟩=some (.int .i64 ((aA2 aC (b5)).f1))) (ds:=[]) (zM 38 0) (by kernel_rfl) rfl rfl ⟨(aAs bK.out 0).trans rfl,(aAs bK.out 1).trans rfl,(aAs aA.out 0).trans rfl,(aAs aA.out 1).trans rfl,((HB.out.cell (World.block_lt_of_cell? w _ hw105_0)).trans hw105_0),((HB.out.cell (World.block_lt_of_cell? w _ hw105_1)).trans hw105_1),((HB.out.cell (World.block_lt_of_cell? w _ hw106_0)).trans hw106_0),((HB.out.cell (World.block_lt_of_cell? w _ hw106_1)).trans hw106_1),((HB.out.cell (World.block_lt_of_cell? w _ hw107_0)).trans hw107_0),((HB.out.cell (World.block_lt_of_cell? w _ hw107_1)).trans hw107_1)⟩ (λhHeld=>?_);refine aE7 aAo.tab6 aAo.aV7 (λHT_ HW_=>?_);generalize w31.drew=w32 at aA bK HB bZ cT dW eK dI gY hHeld ⊢;refine zQ 0 16 (zM 38 1) ?_
   refine zQ 1 17 (zM 38 3) ?_
   refine zQ 2 18 (zM 38 7) ?_
   refine zQ 3 19 (zM 38 15) ?_
   refine zQ 5 21 (zM 38 47) ?_
   refine zQ 7 23 (zM 38 175) ?_
   refine zQ 8 24 (zM 38 431) ?_
   refine aEc (i:=4) (N:=some 20) (v:=?_) (a':=?_) (zM 38 447) rfl rfl (aCp HT_.out HW_.out (by kernel_rfl)) (λ_ _ _ h=>h) (Or.inl ⟨by rfl,?_⟩) hHeld ?_ ?_;rotate_left
   ·rintro w' ⟨s0,s1,s2,s3,s4,s5,s6,s7,s8,s9⟩;exact zzT
   rotate_left
   ·exact zzS
   refine aEc (i:=6) (N:=some 22) (v:=?_) (a':=?_) (zM 38 511) rfl rfl (aCp HT_.out HW_.out (by kernel_rfl)) (λ_ _ _ h=>h) (Or.inl ⟨by rfl,?_⟩) hHeld ?_ ?_;rotate_left
   ·rintro w' ⟨s0,s1,s2,s3,s4,s5,s6,s7,s8,s9⟩;exact zzT
   rotate_left
   ·exact zzS
   refine zQ 9 25 (zM 38 1023) ?_
   refine zQ 10 26 (zM 38 2047) ?_
   refine aEc (i:=11) (N:=some 27) (v:=?_) (a':=?_) (zM 38 4095) rfl rfl (aCp HT_.out HW_.out (by kernel_rfl)) (λ_ _ _ h=>h) (Or.inl ⟨by rfl,?_⟩) hHeld ?_ ?_;rotate_left
   ·rintro w' ⟨s0,s1,s2,s3,s4,s5,s6,s7,s8,s9⟩;exact zzT
   rotate_left
   ·exact zzS
   refine zQ 12 28 (zM 38 8191) ?_
   refine zQ 13 29 (zM 38 16383) ?_
   refine zQ 14 30 (zM 38 32767) ?_
   refine zQ 16 32 (zM 38 98303) ?_
   refine zQ 18 34 (zM 38 360447) ?_
   refine zQ 19 35 (zM 38 884735) ?_
   refine aEc (i:=15) (N:=some 31) (v:=?_) (a':=?_) (zM 38 917503) rfl rfl (aCp HT_.out HW_.out (by kernel_rfl)) (λ_ _ _ h=>h) (Or.inl ⟨by rfl,?_⟩) hHeld ?_ ?_;rotate_left
   ·rintro w' ⟨s0,s1,s2,s3,s4,s5,s6,s7,s8,s9⟩;exact zzT
   rotate_left
   ·exact zzS
   refine aEc (i:=17) (N:=some 33) (v:=?_) (a':=?_) (zM 38 1048575) rfl rfl (aCp HT_.out HW_.out (by kernel_rfl)) (λ_ _ _ h=>h) (Or.inl ⟨by rfl,?_⟩) hHeld ?_ ?_;rotate_left
   ·rintro w' ⟨s0,s1,s2,s3,s4,s5,s6,s7,s8,s9⟩;exact zzT
   rotate_left
   ·exact zzS
   refine zQ 20 36 (zM 38 2097151) ?_
   refine zQ 21 37 (zM 38 4194303) ?_
   refine aEc (i:=22) (N:=some 38) (v:=?_) (a':=?_) (zM 38 8388607) rfl rfl (aCp HT_.out HW_.out (by kernel_rfl)) (λ_ _ _ h=>h) (Or.inl ⟨by rfl,?_⟩) hHeld ?_ ?_;rotate_left
   ·rintro w' ⟨s0,s1,s2,s3,s4,s5,s6,s7,s8,s9⟩;exact zzT
   rotate_left
   ·exact zzS
   refine zQ 23 39 (zM 38 16777215) ?_
   refine zQ 24 40 (zM 38 33554431) ?_
   refine zQ 25 41 (zM 38 67108863) ?_
   refine zQ 27 43 (zM 38 201326591) ?_
   refine zQ 29 45 (zM 38 738197503) ?_
   refine zQ 30 46 (zM 38 1811939327) ?_
   refine aEc (i:=26) (N:=some 42) (v:=?_) (a':=?_) (zM 38 1879048191) rfl rfl (aCp HT_.out HW_.out (by kernel_rfl)) (λ_ _ _ h=>h) (Or.inl ⟨by rfl,?_⟩) hHeld ?_ ?_;rotate_left
   ·rintro w' ⟨s0,s1,s2,s3,s4,s5,s6,s7,s8,s9⟩;exact zzT
   rotate_left
   ·exact zzS
   refine aEc (i:=28) (N:=some 44) (v:=?_) (a':=?_) (zM 38 2147483647) rfl rfl (aCp HT_.out HW_.out (by kernel_rfl)) (λ_ _ _ h=>h) (Or.inl ⟨by rfl,?_⟩) hHeld ?_ ?_;rotate_left
   ·rintro w' ⟨s0,s1,s2,s3,s4,s5,s6,s7,s8,s9⟩;exact zzT
   rotate_left
   ·exact zzS
   refine zQ 31 47 (zM 38 4294967295) ?_
   refine zQ 32 48 (zM 38 8589934591) ?_
   refine aEc (i:=33) (N:=some 49) (v:=?_) (a':=?_) (zM 38 17179869183) rfl rfl (aCp HT_.out HW_.out (by kernel_rfl)) (λ_ _ _ h=>h) (Or.inl ⟨by rfl,?_⟩) hHeld ?_ ?_;rotate_left
   ·rintro w' ⟨s0,s1,s2,s3,s4,s5,s6,s7,s8,s9⟩;exact zzT
   rotate_left
   ·exact zzS
   refine zQ 34 50 (zM 38 34359738367) ?_
   refine zQ 35 51 (zM 38 68719476735) ?_
   refine zQ 36 52 (zM 38 137438953471) ?_
   refine zQ 37 53 (zM 38 274877906943) ?_
   refine aI3 (aF7 HT_.out (by kernel_rfl)) ?_;(try go_wp2);go_roundg k1;(case measure=>have:=HK1.out;omega);case rel=>exact⟨(wrap64 (aT+1)),zz5,H',⟨aFc⟩,⟨zz0⟩,⟨aNs⟩⟩
end P
end Go.Proofs.Ytfdaopkbibbhbaa
