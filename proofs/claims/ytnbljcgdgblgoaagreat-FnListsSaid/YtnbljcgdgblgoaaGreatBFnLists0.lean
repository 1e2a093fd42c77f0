/- A part of the proof of aF3. -/
import Derived.Test.YtnbljcgdgblgoaaGreatProg
import Derived.Below
import Derived.Deep.Draws
import Derived.Deep.AppendLies
import Derived.Maps.AppendAt
import Derived.OwnWalk
import Derived.Laws.BytesArg
import Derived.Laws.MakeOwn
import Derived.Laws.OwnMore
import Derived.Deep.OwnRows
import Derived.Tactics
import Derived.Lib.ConvBytes
import Derived.Laws.Slices
import Derived.WalkKit
import Derived.KernelRfl
import Derived.RowKit3
import Derived.Deep.LoopGhost
import Derived.Deep.QuietTactic
import Derived.BigQuiet
import Derived.WideLaws
import Derived.Deep.DeepCutAuto
import Derived.Deep.CutBlock
import Derived.Deep.RegionHeld3
import Derived.Laws.Rows
import Derived.Lib.AppendStr
import Derived.ArgAppend
import Derived.Laws.IdiomCopy
import Derived.OrdersHeld
import Derived.Laws.BitsLemmas
import Derived.RowKit
import Derived.Test.YtnbljcgdgblgoaaGreatBFnListsWWords
import Derived.Test.YtnbljcgdgblgoaaGreatBFnListsWLast
import Derived.Test.YtnbljcgdgblgoaaGreatBFnListsWTab
import Derived.Test.YtnbljcgdgblgoaaGreatBFnListsWApart
import Derived.Test.YtnbljcgdgblgoaaGreatBFnListsWArr
import Derived.Test.YtnbljcgdgblgoaaGreatBFnListsWFoot
import Derived.Test.YtnbljcgdgblgoaaGreatBFnListsWKept
import Derived.Test.YtnbljcgdgblgoaaGreatBFnListsWShare
import Derived.Test.YtnbljcgdgblgoaaGreatBFnListsWN
import Derived.Laws.StructEq
import Derived.Test.YtnbljcgdgblgoaaGreatBFnListsWRepsOne
import Derived.Test.YtnbljcgdgblgoaaGreatBFnListsWInv
import Derived.Test.YtnbljcgdgblgoaaGreatBFnListsWGuard
import Derived.Test.YtnbljcgdgblgoaaGreatBFnListsWNEv
import Derived.Test.YtnbljcgdgblgoaaGreatBFnListsWMore
set_option linter.unusedVariables false
set_option linter.unusedSimpArgs false
set_option maxHeartbeats 8000000
set_option maxRecDepth 100000
namespace Go.Proofs.YtnbljcgdgblgoaaGreat
theorem zdT {p:Prop} [Decidable p] (h:decide p=true):p:=of_decide_eq_true h
theorem zdY {p:Prop} [Decidable p] (h:p):decide p=true:=decide_eq_true h
theorem zdN {p:Prop} [Decidable p] (h:¬ p):decide p=false:=decide_eq_false h
theorem zdI {α:Type} {a b:α} (h:some a=some b):a=b:=Option.some.inj h
theorem zdB {b:Bool} (h:b≠true):b=false:=Bool.eq_false_iff.mpr h
theorem zdG {α:Type} {l:List α} {i:Nat} {a:α}:l.getD i a=(l[i]?).getD a:=List.getD_eq_getElem?_getD
theorem zdH {α:Type} {l:List α} {i:Nat} (h:i<l.length):l[i]? = some l[i]:=List.getElem?_eq_getElem h
end Go.Proofs.YtnbljcgdgblgoaaGreat
namespace Go.Proofs.YtnbljcgdgblgoaaGreat
open Go.RowKit Go.Proofs.YtnbljcgdgblgoaaGreatW.PrintWords Go.Proofs.YtnbljcgdgblgoaaGreatW.PrintLast Go.Proofs.YtnbljcgdgblgoaaGreatW.PrintMore
attribute [local go_sem] max2_int min2_int max_two min_two max_three min_three max_four min_four
namespace Cf
structure E where
 f0:Int
 f1:Int
 deriving DecidableEq
end Cf
namespace P
def bR5:Option Int->Value
 | none=>.nilIface
 | some c=>.iface 0 (.int .i64 c)
theorem aDs:bR5 none = .nilIface:=rfl
theorem aDr (c:Int):bR5 (some c) = .iface 0 (.int .i64 c):=rfl
theorem info3:(Tryz.prog.info? 3).map (λi=>(i.zero,i.size,i.bytes))=some (some (.int .i64 0),1,8):=by kernel_rfl
theorem info26:(Tryz.prog.info? 26).map (λi=>(i.zero,i.size,i.bytes))=some (some (.slice none 0 0),1,24):=by kernel_rfl
theorem aJ9:(Tryz.prog.info? 46).map (λi=>(i.zero,i.size,i.bytes))=some (some (.agg #[(.int .i64 0),(.int .i64 0)]),2,16):=by kernel_rfl
abbrev S46:=Go.Proofs.YtnbljcgdgblgoaaGreat.Cf.E
def z46:S46:=⟨(0:Int),(0:Int)⟩
def k46:Kd S46:=Kd.iso (Kd.pair (Kd.int .i64) (Kd.int .i64)) (λx:S46=>(x.f0,x.f1))
theorem aV0:Kd.Heap k46:=Kd.bCn _ (Kd.aZc (Kd.aV8 .i64) (Kd.aV8 .i64))
theorem bCc {w:World} {x:S46} {cs:List Value} (h:k46.K w x cs):cs=[.int .i64 x.f0,.int .i64 x.f1]:=by
 obtain⟨_,_,rfl,rfl,rfl⟩:=h
 exact rfl
theorem aG7 (w:World) (base:Nat) (ok:Nat->Prop) (x:S46) :k46.M w base ok x [.int .i64 x.f0,.int .i64 x.f1]:=⟨[.int .i64 x.f0],[.int .i64 x.f1],rfl,rfl,rfl⟩
def aA3 (xs:List S46) (i:Int):S46:=xs.getD i.toNat z46
theorem aDo {w:World} {A:Option Addr} {n:Nat} {xs:List S46} (h:Kd.C k46 w A n xs) (i:Int) (h0:0<=i) (h1:i<n):∃ ad ,A=some ad/\w.cell? (ad.add (i.toNat*2))=some (.int .i64 (aA3 xs i).f0)/\w.cell? ⟨(ad.add (i.toNat*2)).block,(ad.add (i.toNat*2)).off+1,none⟩=some (.int .i64 (aA3 xs i).f1):=by
 obtain⟨ad,c,e,_,hK,hc0⟩:=Kd.bMo h z46 i h0 h1
 have hc:∀ j u,c[j]? = some u->w.cell? (ad.add (i.toNat*2+j))=some u:=hc0
 obtain rfl:=bCc hK
 exact⟨ad,e,hc 0 _ rfl,by rw[<-bA2 _ _ 1 (by omega)];exact hc 1 _ rfl⟩
def aBt (xs:List (List Int)) (i:Int):(List Int):=xs.getD i.toNat ([]:List Int)
theorem aH8 {w:World} {A:Option Addr} {n:Nat} {xs:List (List Int)} (h:Kd.C (Kd.slice 3 (Kd.int .i64)) w A n xs) (i:Int) (h0:0<=i) (h1:i<n):∃ ad A0 c0,A=some ad/\w.cell? (ad.add i.toNat)=some (.slice A0 (aBt xs i).length c0)/\(aBt xs i).length<=c0/\(Kd.int .i64).C w A0 (aBt xs i).length (aBt xs i):=by
 obtain⟨ad,c,e,_,hK,hc0⟩:=Kd.bMo h ([]:List Int) i h0 h1
 have hc:∀ j u,c[j]? = some u->w.cell? (ad.add (i.toNat*1+j))=some u:=hc0
 obtain⟨A0,c0,rfl,l0,g0⟩:=hK
 exact⟨ad,A0,c0,e,by have hq:=hc 0 _ rfl;rwa[Nat.mul_one,Nat.add_zero]at hq,l0,g0⟩
structure S25 where
 f0:Int
 f1:(List S46)
def z25:S25:=⟨(0:Int),([]:List S46)⟩
theorem zO_ {α β:Type} {x:Option α} {f:α->Option β} {b:β} (h:x.bind f=some b):∃ a,x=some a/\f a=some b:=Option.bind_eq_some_iff.mp h
theorem zK_ {p:Prop} (h:p):aA2 p:=⟨h⟩
theorem zA2 {p0 p1:Prop} (h0:p0) (h1:p1):aA2 p0/\aA2 p1:=⟨⟨h0⟩,⟨h1⟩⟩
theorem zA3 {p0 p1 p2:Prop} (h0:p0) (h1:p1) (h2:p2):aA2 p0/\aA2 p1/\aA2 p2:=⟨⟨h0⟩,⟨h1⟩,⟨h2⟩⟩
theorem zA4 {p0 p1 p2 p3:Prop} (h0:p0) (h1:p1) (h2:p2) (h3:p3):aA2 p0/\aA2 p1/\aA2 p2/\aA2 p3:=⟨⟨h0⟩,⟨h1⟩,⟨h2⟩,⟨h3⟩⟩
theorem zA5 {p0 p1 p2 p3 p4:Prop} (h0:p0) (h1:p1) (h2:p2) (h3:p3) (h4:p4):aA2 p0/\aA2 p1/\aA2 p2/\aA2 p3/\aA2 p4:=⟨⟨h0⟩,⟨h1⟩,⟨h2⟩,⟨h3⟩,⟨h4⟩⟩
theorem zA6 {p0 p1 p2 p3 p4 p5:Prop} (h0:p0) (h1:p1) (h2:p2) (h3:p3) (h4:p4) (h5:p5):aA2 p0/\aA2 p1/\aA2 p2/\aA2 p3/\aA2 p4/\aA2 p5:=⟨⟨h0⟩,⟨h1⟩,⟨h2⟩,⟨h3⟩,⟨h4⟩,⟨h5⟩⟩
theorem zA7 {p0 p1 p2 p3 p4 p5 p6:Prop} (h0:p0) (h1:p1) (h2:p2) (h3:p3) (h4:p4) (h5:p5) (h6:p6):aA2 p0/\aA2 p1/\aA2 p2/\aA2 p3/\aA2 p4/\aA2 p5/\aA2 p6:=⟨⟨h0⟩,⟨h1⟩,⟨h2⟩,⟨h3⟩,⟨h4⟩,⟨h5⟩,⟨h6⟩⟩
theorem zA8 {p0 p1 p2 p3 p4 p5 p6 p7:Prop} (h0:p0) (h1:p1) (h2:p2) (h3:p3) (h4:p4) (h5:p5) (h6:p6) (h7:p7):aA2 p0/\aA2 p1/\aA2 p2/\aA2 p3/\aA2 p4/\aA2 p5/\aA2 p6/\aA2 p7:=⟨⟨h0⟩,⟨h1⟩,⟨h2⟩,⟨h3⟩,⟨h4⟩,⟨h5⟩,⟨h6⟩,⟨h7⟩⟩
theorem zA9 {p0 p1 p2 p3 p4 p5 p6 p7 p8:Prop} (h0:p0) (h1:p1) (h2:p2) (h3:p3) (h4:p4) (h5:p5) (h6:p6) (h7:p7) (h8:p8):aA2 p0/\aA2 p1/\aA2 p2/\aA2 p3/\aA2 p4/\aA2 p5/\aA2 p6/\aA2 p7/\aA2 p8:=⟨⟨h0⟩,⟨h1⟩,⟨h2⟩,⟨h3⟩,⟨h4⟩,⟨h5⟩,⟨h6⟩,⟨h7⟩,⟨h8⟩⟩
theorem aSa {p0 p1 p2 p3 p4 p5 p6 p7 p8 p9:Prop} (h0:p0) (h1:p1) (h2:p2) (h3:p3) (h4:p4) (h5:p5) (h6:p6) (h7:p7) (h8:p8) (h9:p9):aA2 p0/\aA2 p1/\aA2 p2/\aA2 p3/\aA2 p4/\aA2 p5/\aA2 p6/\aA2 p7/\aA2 p8/\aA2 p9:=⟨⟨h0⟩,⟨h1⟩,⟨h2⟩,⟨h3⟩,⟨h4⟩,⟨h5⟩,⟨h6⟩,⟨h7⟩,⟨h8⟩,⟨h9⟩⟩
theorem bOc {p0 p1 p2 p3 p4 p5 p6 p7 p8 p9 p10:Prop} (h0:p0) (h1:p1) (h2:p2) (h3:p3) (h4:p4) (h5:p5) (h6:p6) (h7:p7) (h8:p8) (h9:p9) (h10:p10):aA2 p0/\aA2 p1/\aA2 p2/\aA2 p3/\aA2 p4/\aA2 p5/\aA2 p6/\aA2 p7/\aA2 p8/\aA2 p9/\aA2 p10:=⟨⟨h0⟩,⟨h1⟩,⟨h2⟩,⟨h3⟩,⟨h4⟩,⟨h5⟩,⟨h6⟩,⟨h7⟩,⟨h8⟩,⟨h9⟩,⟨h10⟩⟩
theorem bSp {p0 p1 p2 p3 p4 p5 p6 p7 p8 p9 p10 p11 p12:Prop} (h0:p0) (h1:p1) (h2:p2) (h3:p3) (h4:p4) (h5:p5) (h6:p6) (h7:p7) (h8:p8) (h9:p9) (h10:p10) (h11:p11) (h12:p12):aA2 p0/\aA2 p1/\aA2 p2/\aA2 p3/\aA2 p4/\aA2 p5/\aA2 p6/\aA2 p7/\aA2 p8/\aA2 p9/\aA2 p10/\aA2 p11/\aA2 p12:=⟨⟨h0⟩,⟨h1⟩,⟨h2⟩,⟨h3⟩,⟨h4⟩,⟨h5⟩,⟨h6⟩,⟨h7⟩,⟨h8⟩,⟨h9⟩,⟨h10⟩,⟨h11⟩,⟨h12⟩⟩
theorem bQl {p0 p1 p2 p3 p4 p5 p6 p7 p8 p9 p10 p11 p12 p13 p14:Prop} (h0:p0) (h1:p1) (h2:p2) (h3:p3) (h4:p4) (h5:p5) (h6:p6) (h7:p7) (h8:p8) (h9:p9) (h10:p10) (h11:p11) (h12:p12) (h13:p13) (h14:p14):aA2 p0/\aA2 p1/\aA2 p2/\aA2 p3/\aA2 p4/\aA2 p5/\aA2 p6/\aA2 p7/\aA2 p8/\aA2 p9/\aA2 p10/\aA2 p11/\aA2 p12/\aA2 p13/\aA2 p14:=⟨⟨h0⟩,⟨h1⟩,⟨h2⟩,⟨h3⟩,⟨h4⟩,⟨h5⟩,⟨h6⟩,⟨h7⟩,⟨h8⟩,⟨h9⟩,⟨h10⟩,⟨h11⟩,⟨h12⟩,⟨h13⟩,⟨h14⟩⟩
theorem bIt {p0 p1 p2 p3 p4 p5 p6 p7 p8 p9 p10 p11 p12 p13 p14 p15 p16:Prop} (h0:p0) (h1:p1) (h2:p2) (h3:p3) (h4:p4) (h5:p5) (h6:p6) (h7:p7) (h8:p8) (h9:p9) (h10:p10) (h11:p11) (h12:p12) (h13:p13) (h14:p14) (h15:p15) (h16:p16):aA2 p0/\aA2 p1/\aA2 p2/\aA2 p3/\aA2 p4/\aA2 p5/\aA2 p6/\aA2 p7/\aA2 p8/\aA2 p9/\aA2 p10/\aA2 p11/\aA2 p12/\aA2 p13/\aA2 p14/\aA2 p15/\aA2 p16:=⟨⟨h0⟩,⟨h1⟩,⟨h2⟩,⟨h3⟩,⟨h4⟩,⟨h5⟩,⟨h6⟩,⟨h7⟩,⟨h8⟩,⟨h9⟩,⟨h10⟩,⟨h11⟩,⟨h12⟩,⟨h13⟩,⟨h14⟩,⟨h15⟩,⟨h16⟩⟩
theorem bN7 {p0 p1 p2 p3 p4 p5 p6 p7 p8 p9 p10 p11 p12 p13 p14 p15 p16 p17 p18:Prop} (h0:p0) (h1:p1) (h2:p2) (h3:p3) (h4:p4) (h5:p5) (h6:p6) (h7:p7) (h8:p8) (h9:p9) (h10:p10) (h11:p11) (h12:p12) (h13:p13) (h14:p14) (h15:p15) (h16:p16) (h17:p17) (h18:p18):aA2 p0/\aA2 p1/\aA2 p2/\aA2 p3/\aA2 p4/\aA2 p5/\aA2 p6/\aA2 p7/\aA2 p8/\aA2 p9/\aA2 p10/\aA2 p11/\aA2 p12/\aA2 p13/\aA2 p14/\aA2 p15/\aA2 p16/\aA2 p17/\aA2 p18:=⟨⟨h0⟩,⟨h1⟩,⟨h2⟩,⟨h3⟩,⟨h4⟩,⟨h5⟩,⟨h6⟩,⟨h7⟩,⟨h8⟩,⟨h9⟩,⟨h10⟩,⟨h11⟩,⟨h12⟩,⟨h13⟩,⟨h14⟩,⟨h15⟩,⟨h16⟩,⟨h17⟩,⟨h18⟩⟩
theorem bQk {p0 p1 p2 p3 p4 p5 p6 p7 p8 p9 p10 p11 p12 p13 p14 p15 p16 p17 p18 p19:Prop} (h0:p0) (h1:p1) (h2:p2) (h3:p3) (h4:p4) (h5:p5) (h6:p6) (h7:p7) (h8:p8) (h9:p9) (h10:p10) (h11:p11) (h12:p12) (h13:p13) (h14:p14) (h15:p15) (h16:p16) (h17:p17) (h18:p18) (h19:p19):aA2 p0/\aA2 p1/\aA2 p2/\aA2 p3/\aA2 p4/\aA2 p5/\aA2 p6/\aA2 p7/\aA2 p8/\aA2 p9/\aA2 p10/\aA2 p11/\aA2 p12/\aA2 p13/\aA2 p14/\aA2 p15/\aA2 p16/\aA2 p17/\aA2 p18/\aA2 p19:=⟨⟨h0⟩,⟨h1⟩,⟨h2⟩,⟨h3⟩,⟨h4⟩,⟨h5⟩,⟨h6⟩,⟨h7⟩,⟨h8⟩,⟨h9⟩,⟨h10⟩,⟨h11⟩,⟨h12⟩,⟨h13⟩,⟨h14⟩,⟨h15⟩,⟨h16⟩,⟨h17⟩,⟨h18⟩,⟨h19⟩⟩
theorem aCe {W:World} {g:Nat} {t:TypeId} {a0 a1:Value} (h:Go.Proofs.YtnbljcgdgblgoaaGreatW.PrintWords.aA2 (W.heap[g]? = some (.cells #[a0,a1] t (0,0)))):W.cell? ⟨g,0,none⟩=some a0:=(Go.Proofs.YtnbljcgdgblgoaaGreatW.PrintWords.aAc h.out 0).trans rfl
theorem aCd {W:World} {g:Nat} {t:TypeId} {a0 a1:Value} (h:Go.Proofs.YtnbljcgdgblgoaaGreatW.PrintWords.aA2 (W.heap[g]? = some (.cells #[a0,a1] t (0,0)))):W.cell? ⟨g,1,none⟩=some a1:=(Go.Proofs.YtnbljcgdgblgoaaGreatW.PrintWords.aAc h.out 1).trans rfl
theorem zzY {p:Prop} (h:p:=by first|(rw[hy_];with_reducible exact H)|(have H2_:=(Option.bind_some _ _).symm.trans H;rw[hy_];with_reducible exact H2_)|(have H2_:=(Option.bind_some _ _).symm.trans H;with_reducible exact H2_)|with_reducible exact H|(rw[hy_];exact H)|exact H):p:=h
def zL:Nat->Nat->List Bool
 | 0,_=>[]
 | n+1,m=>Nat.beq (m%2) 1::zL n (m/2)
def zM (n m:Nat):Array Bool:=⟨zL n m⟩
theorem zP {P:Program} {ops:Array Oper} {Q:Exit->Act->World->Prop} {md:Region.Mode} {S:World->Prop} {ds:List Nat} {T:Bool×List (List Nat×List Nat)} {oi:Oper} {fuel:Nat} {l:Array Bool} {a:Act} {w:World} (i:Nat) (N:Tmp) (v:Value) (l':Array Bool) (hi:ops[i]? = some oi) (hN:oi.dst=some N) (hT:aIo md ops=T) (hy:∀ w,(execOp a.eval oi).run P w = .ok (.value v) w) (a':Act) (ha:a.put (some N) v=a')
  (h:aC8 P md ops Q S ds fuel l' a' w) (hw:Region.wanted oi (yielded ops a.tmps)=true:=by rfl) (hc:bLx T l.toList l'.toList i=true:=by kernel_rfl) (hQ:∀ c a w,Q (.panic c) (a.put oi.dst v) w->Q (.panic c) a w:=by exact λ_ _ _ h=>h):aC8 P md ops Q S ds (fuel+1) l a w:=Go.Proofs.YtnbljcgdgblgoaaGreatW.PrintLast.aKp l' hi hN (bEc hT hc) hQ (Or.inl ⟨hw,hy⟩) ha h
theorem zU {P:Program} {ops:Array Oper} {Q:Exit->Act->World->Prop} {md:Region.Mode} {S:World->Prop} {ds:List Nat} {T:Bool×List (List Nat×List Nat)} {oi:Oper} {fuel:Nat} {l:Array Bool} {a:Act} {w:World} (i:Nat) (N:Tmp) (l':Array Bool) (hi:ops[i]? = some oi) (hN:oi.dst=some N) (hT:aIo md ops=T) (a':Act) (ha:a.put (some N) undef=a')
  (h:aC8 P md ops Q S ds fuel l' a' w) (hw:Region.wanted oi (yielded ops a.tmps)=false:=by rfl) (hc:bLx T l.toList l'.toList i=true:=by kernel_rfl) (hQ:∀ c a w,Q (.panic c) (a.put oi.dst undef) w->Q (.panic c) a w:=by exact λ_ _ _ h=>h):aC8 P md ops Q S ds (fuel+1) l a w:=Go.Proofs.YtnbljcgdgblgoaaGreatW.PrintLast.aKp l' hi hN (bEc hT hc) hQ (Or.inr ⟨hw,rfl⟩) ha h
theorem zm0 {p:Prop} (h:p:=by repeat' first|(with_reducible apply ih0)|(with_reducible exact LeO.refl _)|(with_reducible exact LeO.none _)|(with_reducible refine LeO.ite ?_ ?_)|(with_reducible refine LeO.bind ?_ (λ_=>?_))|apply ih0|exact LeO.none _|refine LeO.ite ?_ ?_|refine LeO.bind ?_ (λ_=>?_)):p:=h
theorem zm1 {p:Prop} (h:p:=by repeat' first|(with_reducible apply ih0)|(with_reducible apply ih1)|(with_reducible exact LeO.refl _)|(with_reducible exact LeO.none _)|(with_reducible refine LeO.ite ?_ ?_)|(with_reducible refine LeO.bind ?_ (λ_=>?_))|apply ih0|apply ih1|exact LeO.none _|refine LeO.ite ?_ ?_|refine LeO.bind ?_ (λ_=>?_)):p:=h
theorem zm2 {p:Prop} (h:p:=by repeat' first|(with_reducible apply ih0)|(with_reducible apply ih1)|(with_reducible apply ih2)|(with_reducible apply ih3)|(with_reducible apply ih4)|(with_reducible apply aAo.mono)|(with_reducible apply aAh.mono)|(with_reducible exact LeO.refl _)|(with_reducible exact LeO.none _)|(with_reducible refine LeO.ite ?_ ?_)|(with_reducible refine LeO.bind ?_ (λ_=>?_))|apply ih0|apply ih1|apply ih2|apply ih3|apply ih4|apply aAo.mono|apply aAh.mono|exact LeO.none _|refine LeO.ite ?_ ?_|refine LeO.bind ?_ (λ_=>?_)):p:=h
theorem zm3 {p:Prop} (h:p:=by repeat' first|(with_reducible apply ih0)|(with_reducible apply ih1)|(with_reducible apply aCp.mono)|(with_reducible apply aCr.mono)|(with_reducible apply aCz.mono)|(with_reducible apply aCw.mono)|(with_reducible apply aBk.mono)|(with_reducible apply aCv.mono)|(with_reducible apply aAd.mono)|(with_reducible apply aCu.mono)|(with_reducible apply aD3.mono)|(with_reducible apply aE2.mono)|(with_reducible apply aCi.mono)|(with_reducible exact LeO.refl _)|(with_reducible exact LeO.none _)|(with_reducible refine LeO.ite ?_ ?_)|(with_reducible refine LeO.bind ?_ (λ_=>?_))|apply ih0|apply ih1|apply aCp.mono|apply aCr.mono|apply aCz.mono|apply aCw.mono|apply aBk.mono|apply aCv.mono|apply aAd.mono|apply aCu.mono|apply aD3.mono|apply aE2.mono|apply aCi.mono|exact LeO.none _|refine LeO.ite ?_ ?_|refine LeO.bind ?_ (λ_=>?_)):p:=h
theorem zm4 {p:Prop} (h:p:=by repeat' first|(with_reducible apply ih0)|(with_reducible apply ih1)|(with_reducible apply ih2)|(with_reducible apply ih3)|(with_reducible apply aAe.mono)|(with_reducible apply aBy.mono)|(with_reducible exact LeO.refl _)|(with_reducible exact LeO.none _)|(with_reducible refine LeO.ite ?_ ?_)|(with_reducible refine LeO.bind ?_ (λ_=>?_))|apply ih0|apply ih1|apply ih2|apply ih3|apply aAe.mono|apply aBy.mono|exact LeO.none _|refine LeO.ite ?_ ?_|refine LeO.bind ?_ (λ_=>?_)):p:=h
theorem zm5 {p:Prop} (h:p:=by repeat' first|(with_reducible apply ih0)|(with_reducible apply ih1)|(with_reducible apply ih2)|(with_reducible apply aBo.mono)|(with_reducible exact LeO.refl _)|(with_reducible exact LeO.none _)|(with_reducible refine LeO.ite ?_ ?_)|(with_reducible refine LeO.bind ?_ (λ_=>?_))|apply ih0|apply ih1|apply ih2|apply aBo.mono|exact LeO.none _|refine LeO.ite ?_ ?_|refine LeO.bind ?_ (λ_=>?_)):p:=h
theorem zm6 {p:Prop} (h:p:=by repeat' first|(with_reducible apply ih0)|(with_reducible apply ih1)|(with_reducible apply aAn.mono)|(with_reducible apply aAh.mono)|(with_reducible apply aC3.mono)|(with_reducible exact LeO.refl _)|(with_reducible exact LeO.none _)|(with_reducible refine LeO.ite ?_ ?_)|(with_reducible refine LeO.bind ?_ (λ_=>?_))|apply ih0|apply ih1|apply aAn.mono|apply aAh.mono|apply aC3.mono|exact LeO.none _|refine LeO.ite ?_ ?_|refine LeO.bind ?_ (λ_=>?_)):p:=h
theorem zm7 {p:Prop} (h:p:=by repeat' first|(with_reducible apply ih0)|(with_reducible apply ih1)|(with_reducible apply aDc.mono)|(with_reducible apply aAn.mono)|(with_reducible apply aBi.mono)|(with_reducible exact LeO.refl _)|(with_reducible exact LeO.none _)|(with_reducible refine LeO.ite ?_ ?_)|(with_reducible refine LeO.bind ?_ (λ_=>?_))|apply ih0|apply ih1|apply aDc.mono|apply aAn.mono|apply aBi.mono|exact LeO.none _|refine LeO.ite ?_ ?_|refine LeO.bind ?_ (λ_=>?_)):p:=h
theorem zm8 {p:Prop} (h:p:=by repeat' first|(with_reducible apply ih0)|(with_reducible apply aAq.mono)|(with_reducible exact LeO.refl _)|(with_reducible exact LeO.none _)|(with_reducible refine LeO.ite ?_ ?_)|(with_reducible refine LeO.bind ?_ (λ_=>?_))|apply ih0|apply aAq.mono|exact LeO.none _|refine LeO.ite ?_ ?_|refine LeO.bind ?_ (λ_=>?_)):p:=h
theorem zm9 {p:Prop} (h:p:=by repeat' first|(with_reducible apply ih0)|(with_reducible apply ih1)|(with_reducible apply aAe.mono)|(with_reducible apply aAq.mono)|(with_reducible exact LeO.refl _)|(with_reducible exact LeO.none _)|(with_reducible refine LeO.ite ?_ ?_)|(with_reducible refine LeO.bind ?_ (λ_=>?_))|apply ih0|apply ih1|apply aAe.mono|apply aAq.mono|exact LeO.none _|refine LeO.ite ?_ ?_|refine LeO.bind ?_ (λ_=>?_)):p:=h
theorem bOb {p:Prop} (h:p:=by repeat' first|(with_reducible apply ih0)|(with_reducible apply ih1)|(with_reducible apply aAn.mono)|(with_reducible exact LeO.refl _)|(with_reducible exact LeO.none _)|(with_reducible refine LeO.ite ?_ ?_)|(with_reducible refine LeO.bind ?_ (λ_=>?_))|apply ih0|apply ih1|apply aAn.mono|exact LeO.none _|refine LeO.ite ?_ ?_|refine LeO.bind ?_ (λ_=>?_)):p:=h
theorem bQj {p:Prop} (h:p:=by repeat' first|(with_reducible apply ih0)|(with_reducible apply aDm.mono)|(with_reducible apply aDa.mono)|(with_reducible apply aCg.mono)|(with_reducible apply aBa.mono)|(with_reducible exact LeO.refl _)|(with_reducible exact LeO.none _)|(with_reducible refine LeO.ite ?_ ?_)|(with_reducible refine LeO.bind ?_ (λ_=>?_))|apply ih0|apply aDm.mono|apply aDa.mono|apply aCg.mono|apply aBa.mono|exact LeO.none _|refine LeO.ite ?_ ?_|refine LeO.bind ?_ (λ_=>?_)):p:=h
theorem bQi {p:Prop} (h:p:=by repeat' first|(with_reducible apply ih0)|(with_reducible apply aAq.mono)|(with_reducible apply aCg.mono)|(with_reducible apply aBj.mono)|(with_reducible exact LeO.refl _)|(with_reducible exact LeO.none _)|(with_reducible refine LeO.ite ?_ ?_)|(with_reducible refine LeO.bind ?_ (λ_=>?_))|apply ih0|apply aAq.mono|apply aCg.mono|apply aBj.mono|exact LeO.none _|refine LeO.ite ?_ ?_|refine LeO.bind ?_ (λ_=>?_)):p:=h
theorem bQh {p:Prop} (h:p:=by repeat' first|(with_reducible apply ih0)|(with_reducible apply aBl.mono)|(with_reducible apply aAm.mono)|(with_reducible exact LeO.refl _)|(with_reducible exact LeO.none _)|(with_reducible refine LeO.ite ?_ ?_)|(with_reducible refine LeO.bind ?_ (λ_=>?_))|apply ih0|apply aBl.mono|apply aAm.mono|exact LeO.none _|refine LeO.ite ?_ ?_|refine LeO.bind ?_ (λ_=>?_)):p:=h
theorem bQg {p:Prop} (h:p:=by repeat' first|(with_reducible apply ih0)|(with_reducible apply aBm.mono)|(with_reducible exact LeO.refl _)|(with_reducible exact LeO.none _)|(with_reducible refine LeO.ite ?_ ?_)|(with_reducible refine LeO.bind ?_ (λ_=>?_))|apply ih0|apply aBm.mono|exact LeO.none _|refine LeO.ite ?_ ?_|refine LeO.bind ?_ (λ_=>?_)):p:=h
theorem bQf {p:Prop} (h:p:=by repeat' first|(with_reducible apply ih0)|(with_reducible apply aAm.mono)|(with_reducible exact LeO.refl _)|(with_reducible exact LeO.none _)|(with_reducible refine LeO.ite ?_ ?_)|(with_reducible refine LeO.bind ?_ (λ_=>?_))|apply ih0|apply aAm.mono|exact LeO.none _|refine LeO.ite ?_ ?_|refine LeO.bind ?_ (λ_=>?_)):p:=h
theorem bQe {p:Prop} (h:p:=by repeat' first|(with_reducible apply ih0)|(with_reducible apply aBu.mono)|(with_reducible exact LeO.refl _)|(with_reducible exact LeO.none _)|(with_reducible refine LeO.ite ?_ ?_)|(with_reducible refine LeO.bind ?_ (λ_=>?_))|apply ih0|apply aBu.mono|exact LeO.none _|refine LeO.ite ?_ ?_|refine LeO.bind ?_ (λ_=>?_)):p:=h
theorem zz0 {p:Prop} (h:p:=by repeat(first|(with_reducible first|exact HB.out|apply aB7|apply aAs|apply aAx|refine aAg ?_ aD2.out)|exact HB.out)):p:=h
theorem zz1 {p:Prop} (h:p:=by(with_reducible repeat(first|refine aA8 ?_ _|refine aA9 ?_|refine aA7 ?_ _));exact aA.out):p:=h
theorem zz2 {p:Prop} (h:p:=by repeat(first|(with_reducible first|exact HB.out|apply aB7|apply aAs|apply aAx)|exact HB.out)):p:=h
theorem zz3 {p:Prop} (h:p:=by(try simp only[List.map_toArray,List.map_cons,List.map_nil]);first|done|rfl|(simp only[List.length_drop,List.length_take];rfl)):p:=h
theorem zz4 {p:Prop} (h:p:=by first|(with_reducible assumption)|assumption):p:=h
theorem zz5 {p:Prop} (h:p:=by repeat(first|exact(Kd.aC4 b3.out HB.out)|(with_reducible refine Kd.aCy ?_ _)|(with_reducible refine Kd.aCx ?_ _)|(with_reducible refine Kd.aDf ?_))):p:=h
theorem zz6 {p:Prop} (h:p:=by first|rfl|(simp;done)|(simp[*];done)):p:=h
theorem zz7 {p:Prop} (h:p:=by first|rfl|(simp[aDs,aDr]<;>rfl)|(simp[*,aDs,aDr]<;>rfl)):p:=h
theorem zz8 {p:Prop} (h:p:=by(with_reducible repeat(first|refine aA8 ?_ _|refine aA9 ?_|refine aA7 ?_ _));exact aI.out):p:=h
theorem zz9 {p:Prop} (h:p:=by repeat(first|(with_reducible first|exact HK.out|apply aAw.aX2|apply aEw|apply aEz|apply aF6|refine aDj ?_ aDd.out _|refine aDj ?_ aGo.out _|refine aDj ?_ bDf.out _)|exact HK.out)):p:=h
theorem bB1 {p:Prop} (h:p:=by first|(refine aAb.aW2 HI0.out ?_;(repeat(first|(with_reducible first|exact HI0.out|apply aAi.alloc|apply aAi.drewN|apply aAi.drew|apply aAi.set_1|apply aAi.set_2|refine aAi.far ?_ bT.out _|refine aAi.far ?_ bZ.out _|refine aAi.far ?_ cH.out _)|exact HI0.out));first|done|exact HI0.out)|(repeat(first|(with_reducible first|exact HI0.out|apply aAi.alloc|apply aAi.drewN|apply aAi.drew|apply aAi.set_1|apply aAi.set_2|refine aAi.far ?_ bT.out _|refine aAi.far ?_ bZ.out _|refine aAi.far ?_ cH.out _)|exact HI0.out))):p:=h
theorem aIl {p:Prop} (h:p:=by repeat(first|(with_reducible first|exact HB.out|apply aB7|apply aAs|apply aAx|refine aAg ?_ aD2.out|refine aAg ?_ aTs.out)|exact HB.out)):p:=h
theorem aJo {p:Prop} (h:p:=by repeat(first|exact(Kd.aC4 HR1.out HB.out)|(with_reducible refine Kd.aCy ?_ _)|(with_reducible refine Kd.aCx ?_ _)|(with_reducible refine Kd.aDf ?_))):p:=h
theorem aDl {p:Prop} (h:p:=by rw[hg];exact(aAa zz2)):p:=h
theorem aD9 {p:Prop} (h:p:=by first|(go_simp;done)|(go_simp;rfl)):p:=h
theorem aH9 {p:Prop} (h:p:=by(with_reducible repeat(first|refine aA8 ?_ _|refine aA9 ?_|refine aA7 ?_ _));exact bC.out):p:=h
theorem bB0 {p:Prop} (h:p:=by(with_reducible repeat(first|refine aA8 ?_ _|refine aA9 ?_|refine aA7 ?_ _));refine aD1 (cs:=#[.int .i64 ((aA3 aC bD).f0),.int .i64 0]) ?_ 1 _ rfl;(with_reducible repeat(first|refine aA8 ?_ _|refine aA9 ?_|refine aA7 ?_ _));refine aD1 (cs:=#[.int .i64 0,.int .i64 0]) ?_ 0 _ rfl;(with_reducible repeat(first|refine aA8 ?_ _|refine aA9 ?_|refine aA7 ?_ _));exact cS.out):p:=h
theorem aRy {p:Prop} (h:p:=by repeat(first|(with_reducible first|exact HK.out|apply aAw.aX2|apply aEw|apply aEz|apply aF6|refine aDj ?_ aDd.out _|refine aDj ?_ aGo.out _|refine aDj ?_ bDf.out _|refine aDj ?_ aJr.out _)|exact HK.out)):p:=h
theorem aO7 {p:Prop} (h:p:=by repeat(first|(with_reducible first|exact HB.out|apply aB7|apply aAs|apply aAx|refine aAg ?_ aD2.out|refine aAg ?_ aFv.out|refine aAg ?_ aTs.out|refine aAg ?_ bMk.out)|exact HB.out)):p:=h
theorem aOt {p:Prop} (h:p:=by repeat(first|(with_reducible first|exact HB.out|apply aB7|apply aAs|apply aAx|refine aAg ?_ aD2.out|refine aAg ?_ aFv.out|refine aAg ?_ aTs.out|refine aAg ?_ bMk.out|refine aAg ?_ aRv.out)|exact HB.out)):p:=h
theorem aO6 {p:Prop} (h:p:=by repeat(first|(with_reducible first|exact HB.out|apply aB7|apply aAs|apply aAx|refine aAg ?_ aD2.out|refine aAg ?_ aKb.out)|exact HB.out)):p:=h
theorem aMe {p:Prop} (h:p:=by(with_reducible repeat(first|refine aA8 ?_ _|refine aA9 ?_|refine aA7 ?_ _));exact aN.out):p:=h
theorem bAz {p:Prop} (h:p:=by(with_reducible repeat(first|refine aA8 ?_ _|refine aA9 ?_|refine aA7 ?_ _));refine aCc ?_ gE.out _;(with_reducible repeat(first|refine aA8 ?_ _|refine aA9 ?_|refine aA7 ?_ _));refine aCc ?_ gE.out _;(with_reducible repeat(first|refine aA8 ?_ _|refine aA9 ?_|refine aA7 ?_ _));exact aN.out):p:=h
theorem bAy {p:Prop} (h:p:=by(with_reducible repeat(first|refine aA8 ?_ _|refine aA9 ?_|refine aA7 ?_ _));refine aCc ?_ b7.out _;(with_reducible repeat(first|refine aA8 ?_ _|refine aA9 ?_|refine aA7 ?_ _));refine aCc ?_ b7.out _;(with_reducible repeat(first|refine aA8 ?_ _|refine aA9 ?_|refine aA7 ?_ _));exact aA.out):p:=h
theorem aIu {p:Prop} (h:p:=by(with_reducible repeat(first|apply Kd.aB6|apply Kd.aB5|apply Kd.aBd));exact aJ.out):p:=h
theorem aKc {p:Prop} (h:p:=by repeat(first|(with_reducible first|exact HB.out|apply aB7|apply aAs|apply aAx|refine aAg ?_ bQ2.out)|exact HB.out)):p:=h
theorem aXa {p:Prop} (h:p:=by repeat(first|(with_reducible exact HR119_0.out)|(with_reducible refine Kd.aCy ?_ _)|(with_reducible refine Kd.aCx ?_ _)|(with_reducible refine Kd.aDf ?_)|exact HR119_0.out)):p:=h
theorem aJs {p:Prop} (h:p:=by(with_reducible repeat(first|apply Kd.aB6|apply Kd.aB5|apply Kd.aBd));exact aV.out):p:=h
theorem bAx {p:Prop} (h:p:=by repeat(first|(with_reducible first|exact HB.out|apply aB7|apply aAs|apply aAx|refine aAg ?_ (aAi.ge HI0.out)|refine aAg ?_ aD2.out|refine aAg ?_ aFv.out|refine aAg ?_ aWv.out|refine aAg ?_ aIt.out)|exact HB.out)):p:=h
theorem aX1 {p:Prop} (h:p:=by repeat(first|(with_reducible first|exact HB.out|apply aB7|apply aAs|apply aAx|refine aAg ?_ (aAi.ge aEq.out)|refine aAg ?_ aD2.out|refine aAg ?_ aWw.out)|exact HB.out)):p:=h
theorem aMw {p:Prop} (h:p:=by repeat(first|(with_reducible first|exact HB.out|apply aB7|apply aAs|apply aAx|refine aAg ?_ (aAi.ge HI0.out)|refine aAg ?_ aD2.out|refine aAg ?_ aFv.out|refine aAg ?_ aWv.out)|exact HB.out)):p:=h
theorem bB9 {p:Prop} (h:p:=by(with_reducible repeat(first|refine aA8 ?_ _|refine aA9 ?_|refine aA7 ?_ _));refine aCc ?_ dN.out _;(with_reducible repeat(first|refine aA8 ?_ _|refine aA9 ?_|refine aA7 ?_ _));refine aCc ?_ dN.out _;(with_reducible repeat(first|refine aA8 ?_ _|refine aA9 ?_|refine aA7 ?_ _));exact aA.out):p:=h
theorem aMv {p:Prop} (h:p:=by repeat(first|(with_reducible first|exact HB.out|apply aB7|apply aAs|apply aAx|refine aAg ?_ aD2.out|refine aAg ?_ aFv.out)|exact HB.out)):p:=h
theorem bN5 {p:Prop} (h:p:=by first|(refine aAb.aW2 HI0.out ?_;(repeat(first|(with_reducible first|exact HI0.out|apply aAi.alloc|apply aAi.drewN|apply aAi.drew|apply aAi.set_1|apply aAi.set_2|refine aAi.far ?_ bT.out _|refine aAi.far ?_ bZ.out _|refine aAi.far ?_ cH.out _|refine aAi.far ?_ dV.out _)|exact HI0.out));first|done|exact HI0.out)|(repeat(first|(with_reducible first|exact HI0.out|apply aAi.alloc|apply aAi.drewN|apply aAi.drew|apply aAi.set_1|apply aAi.set_2|refine aAi.far ?_ bT.out _|refine aAi.far ?_ bZ.out _|refine aAi.far ?_ cH.out _|refine aAi.far ?_ dV.out _)|exact HI0.out))):p:=h
theorem aFw {p:Prop} (h:p:=by rw[hg];exact(aAa zz0)):p:=h
theorem bI0 {p:Prop} (h:p:=by(with_reducible repeat(first|refine aA8 ?_ _|refine aA9 ?_|refine aA7 ?_ _));refine aCc ?_ fF.out _;(with_reducible repeat(first|refine aA8 ?_ _|refine aA9 ?_|refine aA7 ?_ _));refine aCc ?_ fF.out _;(with_reducible repeat(first|refine aA8 ?_ _|refine aA9 ?_|refine aA7 ?_ _));exact aA.out):p:=h
theorem bHz {p:Prop} (h:p:=by(with_reducible repeat(first|refine aA8 ?_ _|refine aA9 ?_|refine aA7 ?_ _));refine aCc ?_ fE.out _;(with_reducible repeat(first|refine aA8 ?_ _|refine aA9 ?_|refine aA7 ?_ _));refine aCc ?_ fE.out _;(with_reducible repeat(first|refine aA8 ?_ _|refine aA9 ?_|refine aA7 ?_ _));exact aI.out):p:=h
theorem bHy {p:Prop} (h:p:=by(with_reducible repeat(first|refine aA8 ?_ _|refine aA9 ?_|refine aA7 ?_ _));refine aCc ?_ iK.out _;(with_reducible repeat(first|refine aA8 ?_ _|refine aA9 ?_|refine aA7 ?_ _));refine aCc ?_ iK.out _;(with_reducible repeat(first|refine aA8 ?_ _|refine aA9 ?_|refine aA7 ?_ _));exact aA.out):p:=h
theorem bDm {p:Prop} (h:p:=by repeat(first|(with_reducible first|exact HI0.out|apply aAi.alloc|apply aAi.drewN|apply aAi.drew|apply aAi.set_1|apply aAi.set_2|refine aAi.far ?_ bT.out _|refine aAi.far ?_ bZ.out _|refine aAi.far ?_ cH.out _)|exact HI0.out)):p:=h
theorem aS7 {p:Prop} (h:p:=by rw[hg];exact Nat.ne_of_lt (aCt (g:=aE) (o:=.cells #[.int .i64 aD,.slice (some bX) aC.length aG] 25 (0,0)) zz1)):p:=h
theorem aS6 {p:Prop} (h:p:=by rw[hg];exact Nat.ne_of_gt (aCt (g:=aE) (o:=.cells #[.int .i64 aD,.slice (some bX) aC.length aG] 25 (0,0)) zz1)):p:=h
theorem bIf {p:Prop} (h:p:=by(with_reducible repeat(first|refine aA8 ?_ _|refine aA9 ?_|refine aA7 ?_ _));refine aD1 (cs:=#[.int .i64 ((aA3 aC aM).f0),.int .i64 0]) ?_ 1 _ rfl;(with_reducible repeat(first|refine aA8 ?_ _|refine aA9 ?_|refine aA7 ?_ _));refine aD1 (cs:=#[.int .i64 0,.int .i64 0]) ?_ 0 _ rfl;(with_reducible repeat(first|refine aA8 ?_ _|refine aA9 ?_|refine aA7 ?_ _));exact bH.out):p:=h
theorem bAw {p:Prop} (h:p:=by repeat(first|(with_reducible first|exact HB.out|apply aB7|apply aAs|apply aAx|refine aAg ?_ (aAi.ge aEq.out)|refine aAg ?_ aD2.out)|exact HB.out)):p:=h
theorem bDl {p:Prop} (h:p:=by(with_reducible repeat(first|refine aA8 ?_ _|refine aA9 ?_|refine aA7 ?_ _));exact bG.out):p:=h
theorem aLu {p:Prop} (h:p:=by(with_reducible repeat(first|apply Kd.aB6|apply Kd.aB5|apply Kd.aBd));exact bY.out):p:=h
theorem bHx {p:Prop} (h:p:=by repeat(first|(with_reducible first|exact HI0.out|apply aAi.alloc|apply aAi.drewN|apply aAi.drew|apply aAi.set_1|apply aAi.set_2|refine aAi.far ?_ bT.out _|refine aAi.far ?_ bZ.out _|refine aAi.far ?_ cH.out _|refine aAi.far ?_ dV.out _)|exact HI0.out)):p:=h
theorem bIe {p:Prop} (h:p:=by(with_reducible repeat(first|refine aA8 ?_ _|refine aA9 ?_|refine aA7 ?_ _));refine aCc ?_ gD.out _;(with_reducible repeat(first|refine aA8 ?_ _|refine aA9 ?_|refine aA7 ?_ _));refine aCc ?_ gD.out _;(with_reducible repeat(first|refine aA8 ?_ _|refine aA9 ?_|refine aA7 ?_ _));exact bG.out):p:=h
theorem bId {p:Prop} (h:p:=by(with_reducible repeat(first|apply Kd.aB6|apply Kd.aB5|apply Kd.aBd));exact Kd.aBs (Kd.aE5 (p:=⟨bP,1,none⟩) (Kd.aE5 (p:=⟨bP,0,none⟩) (Kd.aBs bF.out (λk_ hk=>(⟨hk,hk.2⟩:_/\k_≠bP))) (λ_ hk=>hk.2) (.int .i64 ((aA3 aC bD).f0))) (λ_ hk=>hk.2) (.int .i64 ((aA3 aC bD).f1))) (λ_ hk=>⟨hk.1.1,hk.1.2⟩)):p:=h
theorem aX9 {p:Prop} (h:p:=by repeat(first|(with_reducible first|exact HB.out|apply aB7|apply aAs|apply aAx|refine aAg ?_ aD2.out|refine aAg ?_ aMd.out)|exact HB.out)):p:=h
theorem aNw {p:Prop} (h:p:=by(with_reducible repeat(first|refine aA8 ?_ _|refine aA9 ?_|refine aA7 ?_ _));exact bI.out):p:=h
theorem bDk {p:Prop} (h:p:=by repeat(first|(with_reducible first|exact HK.out|apply aAw.aX2|apply aEw|apply aEz|apply aF6|refine aDj ?_ aDd.out _|refine aDj ?_ aGo.out _)|exact HK.out)):p:=h
theorem bAv {p:Prop} (h:p:=by repeat(first|exact(Kd.aAl bL.out).2.2|(with_reducible refine Kd.aCy ?_ _)|(with_reducible refine Kd.aCx ?_ _)|(with_reducible refine Kd.aDf ?_))):p:=h
theorem aRx {p:Prop} (h:p:=by repeat(first|(with_reducible first|exact HK.out|apply aAw.aX2|apply aEw|apply aEz|apply aF6)|exact HK.out)):p:=h
theorem aX8 {p:Prop} (h:p:=by first|exact Kd.aWt _ _ _ _ _|exact Kd.bMa _ _ _ _ _|exact Kd.bPk _ _ _ _ _|exact Kd.bPq _ _ _ _ _|exact Kd.aLo _ _ _ _ _):p:=h
theorem aTx {p:Prop} (h:p:=by(with_reducible repeat(first|apply Kd.aB6|apply Kd.aB5|apply Kd.aBd));exact HL119_0.out):p:=h
theorem bN4 {p:Prop} (h:p:=by(with_reducible repeat(first|refine aA8 ?_ _|refine aA9 ?_|refine aA7 ?_ _));refine aD1 (cs:=#[.int .i64 b6,.slice none 0 0]) ?_ 1 _ rfl;(with_reducible repeat(first|refine aA8 ?_ _|refine aA9 ?_|refine aA7 ?_ _));refine aD1 (cs:=#[.int .i64 0,.slice none 0 0]) ?_ 0 _ rfl;(with_reducible repeat(first|refine aA8 ?_ _|refine aA9 ?_|refine aA7 ?_ _));exact dG.out):p:=h
theorem aX0 {p:Prop} (h:p:=by(with_reducible repeat(first|refine aA8 ?_ _|refine aA9 ?_|refine aA7 ?_ _));exact eK.out):p:=h
theorem bAu {p:Prop} (h:p:=by repeat(first|exact HR0.out|(with_reducible refine Kd.aCy ?_ _)|(with_reducible refine Kd.aCx ?_ _)|(with_reducible refine Kd.aDf ?_))):p:=h
theorem aOs {p:Prop} (h:p:=by(with_reducible repeat(first|apply Kd.aB6|apply Kd.aB5|apply Kd.aBd));exact dD.out):p:=h
theorem aX7 {p:Prop} (h:p:=by rw[hg];exact Nat.ne_of_lt (aCt (g:=aE) (o:=.cells #[.int .i64 0,.slice none 0 0] 25 (0,0)) zz1)):p:=h
theorem aX6 {p:Prop} (h:p:=by rw[hg];exact Nat.ne_of_gt (aCt (g:=aE) (o:=.cells #[.int .i64 0,.slice none 0 0] 25 (0,0)) zz1)):p:=h
theorem bN3 {p:Prop} (h:p:=by rw[hg];exact Nat.ne_of_lt (aAi.lt (show aAi w0 _ g s0_0 oO oN from by repeat(first|(with_reducible first|exact HI0.out|apply aAi.alloc|apply aAi.drewN|apply aAi.drew|apply aAi.set_1|apply aAi.set_2|refine aAi.far ?_ bT.out _|refine aAi.far ?_ bZ.out _|refine aAi.far ?_ cH.out _)|exact HI0.out)))):p:=h
theorem bN2 {p:Prop} (h:p:=by rw[hg];exact Nat.ne_of_gt (aAi.lt (show aAi w0 _ g s0_0 oO oN from by repeat(first|(with_reducible first|exact HI0.out|apply aAi.alloc|apply aAi.drewN|apply aAi.drew|apply aAi.set_1|apply aAi.set_2|refine aAi.far ?_ bT.out _|refine aAi.far ?_ bZ.out _|refine aAi.far ?_ cH.out _)|exact HI0.out)))):p:=h
theorem bB8 {p:Prop} (h:p:=by rw[hg];exact Nat.ne_of_lt (aCt (g:=aE) (o:=.cells #[.int .i64 aD,.slice (some dQ) aC.length aG] 25 (0,0)) zz1)):p:=h
theorem bB7 {p:Prop} (h:p:=by rw[hg];exact Nat.ne_of_gt (aCt (g:=aE) (o:=.cells #[.int .i64 aD,.slice (some dQ) aC.length aG] 25 (0,0)) zz1)):p:=h
theorem bB6 {p:Prop} (h:p:=by repeat(first|(with_reducible first|exact HK.out|apply Kept.alloc|apply Kept.drewN|apply Kept.drew|refine Kept.setCell ?_ (.inr aDd.out) _|refine Kept.setCell ?_ (.inr aMc.out) _)|exact HK.out)):p:=h
theorem aX5 {p:Prop} (h:p:=by(with_reducible repeat(first|apply Kd.aB6|apply Kd.aB5|apply Kd.aBd));exact cB.out):p:=h
theorem bEr {p:Prop} (h:p:=by(with_reducible repeat(first|refine aA8 ?_ _|refine aA9 ?_|refine aA7 ?_ _));refine aCc ?_ gG.out _;(with_reducible repeat(first|refine aA8 ?_ _|refine aA9 ?_|refine aA7 ?_ _));exact aA.out):p:=h
theorem bEq {p:Prop} (h:p:=by(with_reducible repeat(first|refine aA8 ?_ _|refine aA9 ?_|refine aA7 ?_ _));refine aCc ?_ fJ.out _;(with_reducible repeat(first|refine aA8 ?_ _|refine aA9 ?_|refine aA7 ?_ _));exact aI.out):p:=h
theorem bB5 {p:Prop} (h:p:=by(with_reducible repeat(first|refine aA8 ?_ _|refine aA9 ?_|refine aA7 ?_ _));refine aCc ?_ gF.out _;(with_reducible repeat(first|refine aA8 ?_ _|refine aA9 ?_|refine aA7 ?_ _));exact aN.out):p:=h
theorem bAt {p:Prop} (h:p:=by(with_reducible repeat(first|apply Kd.aB6|apply Kd.aB5|apply Kd.aBd));exact bL.out):p:=h
theorem bAs {p:Prop} (h:p:=by(with_reducible repeat(first|apply Kd.aE0|apply Kd.aDz|apply Kd.aE9));exact eD.out):p:=h
theorem bAr {p:Prop} (h:p:=by(with_reducible repeat(first|apply Kd.aB6|apply Kd.aB5|apply Kd.aBd));exact eY.out):p:=h
theorem bAq {p:Prop} (h:p:=by(with_reducible repeat(first|apply Kd.aE0|apply Kd.aDz|apply Kd.aE9));exact gQ.out):p:=h
theorem bAp {p:Prop} (h:p:=by(with_reducible repeat(first|apply Kd.aE0|apply Kd.aDz|apply Kd.aE9));exact cW.out):p:=h
theorem bAo {p:Prop} (h:p:=by(with_reducible repeat(first|apply Kd.aB6|apply Kd.aB5|apply Kd.aBd));exact mV.out):p:=h
theorem bOa {p:Prop} (h:p:=by(with_reducible repeat(first|refine aA8 ?_ _|refine aA9 ?_|refine aA7 ?_ _));refine aD1 (cs:=#[.int .i64 d6,.int .i64 0]) ?_ 1 _ rfl;(with_reducible repeat(first|refine aA8 ?_ _|refine aA9 ?_|refine aA7 ?_ _));refine aD1 (cs:=#[.int .i64 0,.int .i64 0]) ?_ 0 _ rfl;(with_reducible repeat(first|refine aA8 ?_ _|refine aA9 ?_|refine aA7 ?_ _));exact aN.out):p:=h
theorem aHl {p:Prop} (h:p:=by have:=HK1.out;omega):p:=h
theorem bEp {p:Prop} (h:p:=by repeat(first|exact aXa|(with_reducible refine Kd.aCy ?_ _)|(with_reducible refine Kd.aCx ?_ _)|(with_reducible refine Kd.aDf ?_))):p:=h
theorem bHw {p:Prop} (h:p:=by repeat(first|exact(Kd.aAl aV.out).2.2|(with_reducible refine Kd.aCy ?_ _)|(with_reducible refine Kd.aCx ?_ _)|(with_reducible refine Kd.aDf ?_))):p:=h
theorem bHv {p:Prop} (h:p:=by repeat(first|exact(Kd.aAl b4.out).2.2|(with_reducible refine Kd.aCy ?_ _)|(with_reducible refine Kd.aCx ?_ _)|(with_reducible refine Kd.aDf ?_))):p:=h
theorem bHu {p:Prop} (h:p:=by repeat(first|exact(Kd.aAl dD.out).2.2|(with_reducible refine Kd.aCy ?_ _)|(with_reducible refine Kd.aCx ?_ _)|(with_reducible refine Kd.aDf ?_))):p:=h
theorem bHt {p:Prop} (h:p:=by repeat(first|exact(Kd.aAl bY.out).2.2|(with_reducible refine Kd.aCy ?_ _)|(with_reducible refine Kd.aCx ?_ _)|(with_reducible refine Kd.aDf ?_))):p:=h
theorem bIc {p:Prop} (h:p:=by(with_reducible repeat(first|refine aA8 ?_ _|refine aA9 ?_|refine aA7 ?_ _));refine aCc ?_ dB.out _;(with_reducible repeat(first|refine aA8 ?_ _|refine aA9 ?_|refine aA7 ?_ _));refine aCc ?_ dB.out _;(with_reducible repeat(first|refine aA8 ?_ _|refine aA9 ?_|refine aA7 ?_ _));exact aA.out):p:=h
theorem bO9 {p:Prop} (h:p:=by(with_reducible repeat(first|refine aA8 ?_ _|refine aA9 ?_|refine aA7 ?_ _));refine aCc ?_ iI.out _;(with_reducible repeat(first|refine aA8 ?_ _|refine aA9 ?_|refine aA7 ?_ _));refine aCc ?_ iI.out _;(with_reducible repeat(first|refine aA8 ?_ _|refine aA9 ?_|refine aA7 ?_ _));exact aI.out):p:=h
theorem bO8 {p:Prop} (h:p:=by(with_reducible repeat(first|refine aA8 ?_ _|refine aA9 ?_|refine aA7 ?_ _));refine aCc ?_ fG.out _;(with_reducible repeat(first|refine aA8 ?_ _|refine aA9 ?_|refine aA7 ?_ _));refine aCc ?_ fG.out _;(with_reducible repeat(first|refine aA8 ?_ _|refine aA9 ?_|refine aA7 ?_ _));exact aA.out):p:=h
theorem bN1 {p:Prop} (h:p:=by(with_reducible repeat(first|refine aA8 ?_ _|refine aA9 ?_|refine aA7 ?_ _));refine aCc ?_ gR.out _;(with_reducible repeat(first|refine aA8 ?_ _|refine aA9 ?_|refine aA7 ?_ _));exact cS.out):p:=h
theorem bN0 {p:Prop} (h:p:=by repeat(first|(with_reducible first|exact aEq.out|apply aAi.alloc|apply aAi.drewN|apply aAi.drew|apply aAi.set_1|apply aAi.set_2|refine aAi.far ?_ cO.out _|refine aAi.far ?_ fI.out _)|exact aEq.out)):p:=h
theorem bHs {p:Prop} (h:p:=by(with_reducible repeat(first|apply Kd.aB6|apply Kd.aB5|apply Kd.aBd));exact Kd.aBs aJ.out (λ_ hk=>⟨hk.2,hk.1⟩)):p:=h
theorem bHr {p:Prop} (h:p:=by(with_reducible repeat(first|apply Kd.aB6|apply Kd.aB5|apply Kd.aBd));exact Kd.aBs aV.out (λ_ hk=>⟨hk.2,hk.1⟩)):p:=h
theorem bIb {p:Prop} (h:p:=by repeat(first|(with_reducible first|exact HK.out|apply aAw.aX2|apply aEw|apply aEz|apply aF6|refine aDj ?_ aDd.out _)|exact HK.out)):p:=h
theorem bHq {p:Prop} (h:p:=by(with_reducible repeat(first|apply Kd.aB6|apply Kd.aB5|apply Kd.aBd));exact Kd.aBs jI.out (λ_ hk=>⟨hk.1.2,hk.2⟩)):p:=h
theorem bO7 {p:Prop} (h:p:=by(with_reducible repeat(first|apply Kd.aB6|apply Kd.aB5|apply Kd.aBd));exact(Kd.aBs (Kd.aE5 (p:=⟨bN,1,none⟩) (Kd.aE5 (p:=⟨bN,0,none⟩) (Kd.aDk bY.out aN.out (by decide)) (λ_ hk=>hk.2) (.int .i64 ((aA3 aC a8).f0))) (λ_ hk=>hk.2) (.int .i64 ((aA3 aC a8).f1))) (λ_ h_=>h_.1))):p:=h
theorem aWz {p:Prop} (h:p:=by repeat(first|(with_reducible first|exact HB.out|apply aB7|apply aAs|apply aAx|refine aAg ?_ (aAi.ge HI0.out))|exact HB.out)):p:=h
theorem bAn {p:Prop} (h:p:=by repeat(first|(with_reducible first|exact HI0.out|apply aAi.alloc|apply aAi.drewN|apply aAi.drew|apply aAi.set_1|apply aAi.set_2)|exact HI0.out)):p:=h
theorem bHp {p:Prop} (h:p:=by repeat(first|(with_reducible first|exact HBW.out|apply aB7|apply aAs|apply aAx)|exact HBW.out)):p:=h
theorem bEo {p:Prop} (h:p:=by rw[hg];exact Nat.ne_of_lt (aCt (g:=aU) (o:=.cells #[.int .i64 bQ,aC6] 25 (0,0)) zz8)):p:=h
theorem bEn {p:Prop} (h:p:=by rw[hg];exact Nat.ne_of_gt (aCt (g:=aU) (o:=.cells #[.int .i64 bQ,aC6] 25 (0,0)) zz8)):p:=h
theorem bO6 {p:Prop} (h:p:=by(with_reducible repeat(first|apply Kd.aB6|apply Kd.aB5|apply Kd.aBd));exact(Kd.aBs (Kd.aE5 (p:=⟨dI,1,none⟩) (Kd.aE5 (p:=⟨dI,0,none⟩) (Kd.aDk eE.out dG.out (by decide)) (λ_ hk=>hk.2) (.int .i64 b6)) (λ_ hk=>hk.2) (.slice aTw cY.length aS3)) (λ_ h_=>h_.1))):p:=h
theorem bO5 {p:Prop} (h:p:=by(with_reducible repeat(first|apply Kd.aB6|apply Kd.aB5|apply Kd.aBd));exact(Kd.aBs (Kd.aE5 (p:=⟨dI,1,none⟩) (Kd.aE5 (p:=⟨dI,0,none⟩) (Kd.aDk eE.out dG.out (by decide)) (λ_ hk=>hk.2) (.int .i64 b6)) (λ_ hk=>hk.2) (.slice aWx cY.length aVb)) (λ_ h_=>h_.1))):p:=h
theorem bEx {p:Prop} (h:p:=by(with_reducible repeat(first|apply Kd.aB6|apply Kd.aB5|apply Kd.aBd));exact(Kd.aBs (Kd.aE5 (p:=⟨dI,1,none⟩) (Kd.aE5 (p:=⟨dI,0,none⟩) (Kd.aDk lQ.out dG.out (by decide)) (λ_ hk=>hk.2) (.int .i64 3)) (λ_ hk=>hk.2) (.slice aNv kL.length aMr)) (λ_ h_=>h_.1))):p:=h
theorem aXm {p:Prop} (h:p:=by repeat(first|exact(Kd.aC4 HR0.out HB.out)|(with_reducible refine Kd.aCy ?_ _)|(with_reducible refine Kd.aCx ?_ _)|(with_reducible refine Kd.aDf ?_))):p:=h
theorem aS9 {p:Prop} (h:p:=by(with_reducible repeat(first|apply Kd.aB6|apply Kd.aB5|apply Kd.aBd));exact dU.out):p:=h
theorem bBg {p:Prop} (h:p:=by repeat(first|(with_reducible exact HR110_0.out)|(with_reducible refine Kd.aCy ?_ _)|(with_reducible refine Kd.aCx ?_ _)|(with_reducible refine Kd.aDf ?_)|exact HR110_0.out)):p:=h
theorem bIs {p:Prop} (h:p:=by first|(refine aAb.aW2 HI0.out ?_;(repeat(first|(with_reducible first|exact HI0.out|apply aAi.alloc|apply aAi.drewN|apply aAi.drew|apply aAi.set_1|apply aAi.set_2|refine aAi.far ?_ bT.out _|refine aAi.far ?_ bZ.out _)|exact HI0.out));first|done|exact HI0.out)|(repeat(first|(with_reducible first|exact HI0.out|apply aAi.alloc|apply aAi.drewN|apply aAi.drew|apply aAi.set_1|apply aAi.set_2|refine aAi.far ?_ bT.out _|refine aAi.far ?_ bZ.out _)|exact HI0.out))):p:=h
theorem aXl {p:Prop} (h:p:=by(with_reducible repeat(first|refine aA8 ?_ _|refine aA9 ?_|refine aA7 ?_ _));refine aD1 (cs:=#[.int .i64 aD,aEo]) ?_ 1 _ rfl;(with_reducible repeat(first|refine aA8 ?_ _|refine aA9 ?_|refine aA7 ?_ _));exact bG.out):p:=h
theorem aVs {p:Prop} (h:p:=by rw[hg];exact Nat.ne_of_lt (aCt (g:=aU) (o:=.cells #[.int .i64 0,.slice none 0 0] 25 (0,0)) zz8)):p:=h
theorem aVr {p:Prop} (h:p:=by rw[hg];exact Nat.ne_of_gt (aCt (g:=aU) (o:=.cells #[.int .i64 0,.slice none 0 0] 25 (0,0)) zz8)):p:=h
theorem aVq {p:Prop} (h:p:=by(with_reducible repeat(first|apply Kd.aB6|apply Kd.aB5|apply Kd.aBd));exact bF.out):p:=h
theorem aXk {p:Prop} (h:p:=by rw[hg];exact Nat.ne_of_lt (aCt (g:=aE) (o:=.cells #[.int .i64 aD,.slice (some jE) aC.length aG] 25 (0,0)) zz1)):p:=h
theorem aXj {p:Prop} (h:p:=by rw[hg];exact Nat.ne_of_gt (aCt (g:=aE) (o:=.cells #[.int .i64 aD,.slice (some jE) aC.length aG] 25 (0,0)) zz1)):p:=h
theorem bEw {p:Prop} (h:p:=by rw[hg];exact(by first|exact HK.out.1|exact(show Kept w _ (λk_=>P1_ k_) from by repeat(first|(with_reducible first|exact HK.out|apply Kept.alloc|apply Kept.drewN|apply Kept.drew|refine Kept.setCell ?_ (.inr aDd.out) _)|exact HK.out)).1)):p:=h
theorem aXi {p:Prop} (h:p:=by(with_reducible repeat(first|apply Kd.aE0|apply Kd.aDz|apply Kd.aE9));exact Kd.aE4 jQ.out (λ_ hk=>hk.2)):p:=h
theorem aXh {p:Prop} (h:p:=by(with_reducible repeat(first|apply Kd.aE0|apply Kd.aDz|apply Kd.aE9));exact Kd.aE4 nL.out (λ_ hk=>hk.2)):p:=h
theorem aVp {p:Prop} (h:p:=by(with_reducible repeat(first|apply Kd.aB6|apply Kd.aB5|apply Kd.aBd));exact eE.out):p:=h
theorem aVo {p:Prop} (h:p:=by(with_reducible repeat(first|apply Kd.aB6|apply Kd.aB5|apply Kd.aBd));exact dM.out):p:=h
theorem aS8 {p:Prop} (h:p:=by repeat(first|(with_reducible first|exact HB.out|apply aB7|apply aAs|apply aAx|refine aAg ?_ (aAi.ge aL4.out))|exact HB.out)):p:=h
theorem aVn {p:Prop} (h:p:=by(with_reducible repeat(first|apply Kd.aE0|apply Kd.aDz|apply Kd.aE9));exact bY.out):p:=h
theorem bIr {p:Prop} (h:p:=by rw[hw];exact(by(with_reducible repeat(first|refine aA8 ?_ _|refine aA9 ?_|refine aA7 ?_ _));refine aD1 (cs:=#[.int .i64 ((aA3 aC aX).f0),.int .i64 0]) ?_ 1 _ rfl;(with_reducible repeat(first|refine aA8 ?_ _|refine aA9 ?_|refine aA7 ?_ _));refine aD1 (cs:=#[.int .i64 0,.int .i64 0]) ?_ 0 _ rfl;(with_reducible repeat(first|refine aA8 ?_ _|refine aA9 ?_|refine aA7 ?_ _));exact b0.out)):p:=h
theorem bBf {p:Prop} (h:p:=by repeat(first|(with_reducible first|exact HB.out|apply aB7|apply aAs|apply aAx|refine aAg ?_ aFv.out)|exact HB.out)):p:=h
theorem bIq {p:Prop} (h:p:=by(with_reducible repeat(first|refine aA8 ?_ _|refine aA9 ?_|refine aA7 ?_ _));refine aD1 (cs:=#[.int .i64 3,.slice aWx cY.length aVb]) ?_ 1 _ rfl;(with_reducible repeat(first|refine aA8 ?_ _|refine aA9 ?_|refine aA7 ?_ _));refine aD1 (cs:=#[.int .i64 b6,.slice aWx cY.length aVb]) ?_ 0 _ rfl;(with_reducible repeat(first|refine aA8 ?_ _|refine aA9 ?_|refine aA7 ?_ _));exact dG.out):p:=h
theorem bBe {p:Prop} (h:p:=by repeat(first|exact(Kd.aAl eY.out).2.2|(with_reducible refine Kd.aCy ?_ _)|(with_reducible refine Kd.aCx ?_ _)|(with_reducible refine Kd.aDf ?_))):p:=h
theorem bIp {p:Prop} (h:p:=by(with_reducible repeat(first|refine aA8 ?_ _|refine aA9 ?_|refine aA7 ?_ _));refine aD1 (cs:=#[.int .i64 ((aA3 aC a8).f0),.int .i64 0]) ?_ 1 _ rfl;(with_reducible repeat(first|refine aA8 ?_ _|refine aA9 ?_|refine aA7 ?_ _));refine aD1 (cs:=#[.int .i64 0,.int .i64 0]) ?_ 0 _ rfl;(with_reducible repeat(first|refine aA8 ?_ _|refine aA9 ?_|refine aA7 ?_ _));exact aN.out):p:=h
theorem bEv {p:Prop} (h:p:=by repeat(first|(with_reducible first|exact HB.out|apply aB7|apply aAs|apply aAx|refine aAg ?_ aD2.out|refine aAg ?_ aFv.out|refine aAg ?_ aTs.out)|exact HB.out)):p:=h
theorem aXg {p:Prop} (h:p:=by rw[hg];exact Nat.ne_of_lt (aCt (g:=bN) (o:=.cells #[.int .i64 d6,.int .i64 eQ] 46 (0,0)) aMe)):p:=h
theorem aXf {p:Prop} (h:p:=by rw[hg];exact Nat.ne_of_gt (aCt (g:=bN) (o:=.cells #[.int .i64 d6,.int .i64 eQ] 46 (0,0)) aMe)):p:=h
theorem bIo {p:Prop} (h:p:=by(with_reducible repeat(first|refine aA8 ?_ _|refine aA9 ?_|refine aA7 ?_ _));refine aD1 (cs:=#[.int .i64 b6,.int .i64 0]) ?_ 1 _ rfl;(with_reducible repeat(first|refine aA8 ?_ _|refine aA9 ?_|refine aA7 ?_ _));refine aD1 (cs:=#[.int .i64 0,.int .i64 0]) ?_ 0 _ rfl;(with_reducible repeat(first|refine aA8 ?_ _|refine aA9 ?_|refine aA7 ?_ _));exact cS.out):p:=h
theorem aXe {p:Prop} (h:p:=by rw[hg];exact Nat.ne_of_lt (aCt (g:=dX) (o:=.cells #[.int .i64 aD,aEo] 25 (0,0)) bDl)):p:=h
theorem aXd {p:Prop} (h:p:=by rw[hg];exact Nat.ne_of_gt (aCt (g:=dX) (o:=.cells #[.int .i64 aD,aEo] 25 (0,0)) bDl)):p:=h
theorem bBd {p:Prop} (h:p:=by(with_reducible repeat(first|apply Kd.aE0|apply Kd.aDz|apply Kd.aE9));exact Kd.aE4 bY.out (λ_ hk=>⟨trivial,hk⟩)):p:=h
theorem aXc {p:Prop} (h:p:=by(with_reducible repeat(first|apply Kd.aKa|apply Kd.aK9|apply Kd.aM7));exact d8.out):p:=h
theorem bBc {p:Prop} (h:p:=by first|exact Kd.aLo _ _ _ _ _|exact Kd.bMa _ _ _ _ _|exact Kd.bPk _ _ _ _ _|exact Kd.bPq _ _ _ _ _|exact Kd.aWt _ _ _ _ _):p:=h
theorem aXb {p:Prop} (h:p:=by(with_reducible repeat(first|apply Kd.aB6|apply Kd.aB5|apply Kd.aBd));exact qB.out):p:=h
theorem aM9 {p:Prop} (h:p:=by have:=HK1.out;have:=HK2.out;omega):p:=h
theorem bBb {p:Prop} (h:p:=by(with_reducible repeat(first|apply Kd.aE0|apply Kd.aDz|apply Kd.aE9));exact Kd.aE4 bY.out (λ_ hk=>hk.2)):p:=h
theorem bEu {p:Prop} (h:p:=by repeat(first|(with_reducible first|exact HB.out|apply aB7|apply aAs|apply aAx|refine aAg ?_ aD2.out|refine aAg ?_ bHj.out)|exact HB.out)):p:=h
theorem aMx {p:Prop} (h:p:=by have:=HJ3.out;have:=HK2.out;omega):p:=h
theorem bIn {p:Prop} (h:p:=by rw[hw];exact(by(with_reducible repeat(first|apply Kd.aB6|apply Kd.aB5|apply Kd.aBd));exact Kd.aBs (Kd.aE5 (p:=⟨cG,1,none⟩) (Kd.aE5 (p:=⟨cG,0,none⟩) (Kd.aDk d3.out b0.out (by decide)) (λ_ hk=>hk.2) (.int .i64 ((aA3 aC aX).f0))) (λ_ hk=>hk.2) (.int .i64 ((aA3 aC aX).f1))) (λ_ hk=>hk.1))):p:=h
theorem bIm {p:Prop} (h:p:=by rw[hg];exact Nat.ne_of_lt (aAi.lt (show aAi w0 _ g s0_0 nF mO from by repeat(first|(with_reducible first|exact HI0.out|apply aAi.alloc|apply aAi.drewN|apply aAi.drew|apply aAi.set_1|apply aAi.set_2|refine aAi.far ?_ bT.out _|refine aAi.far ?_ bZ.out _|refine aAi.far ?_ cH.out _)|exact HI0.out)))):p:=h
theorem bIl {p:Prop} (h:p:=by rw[hg];exact Nat.ne_of_gt (aAi.lt (show aAi w0 _ g s0_0 nF mO from by repeat(first|(with_reducible first|exact HI0.out|apply aAi.alloc|apply aAi.drewN|apply aAi.drew|apply aAi.set_1|apply aAi.set_2|refine aAi.far ?_ bT.out _|refine aAi.far ?_ bZ.out _|refine aAi.far ?_ cH.out _)|exact HI0.out)))):p:=h
theorem bIk {p:Prop} (h:p:=by first|exact Kd.aFj (Kd.aM8 dM.out (λ_ hk=>hk.2.2.2.2.1))|(rw[add_block];exact Kd.aFj (Kd.aM8 dM.out (λ_ hk=>hk.2.2.2.2.1)))|(show (Addr.add _ _).block≠_;rw[add_block];exact Kd.aFj (Kd.aM8 dM.out (λ_ hk=>hk.2.2.2.2.1)))|(dsimp only;exact Kd.aFj (Kd.aM8 dM.out (λ_ hk=>hk.2.2.2.2.1)))):p:=h
theorem bIj {p:Prop} (h:p:=by(with_reducible repeat(first|apply Kd.aFa|apply Kd.aF9|apply Kd.aFl));exact(Kd.aGd (Kd.bMc (p:=⟨dI,1,none⟩) (Kd.bMc (p:=⟨dI,0,none⟩) (Kd.aGd dF.out (λk_ hk=>(⟨hk,hk.1.2.2.2.1⟩:_/\k_≠dI))) (λ_ hk=>hk.2) (.int .i64 3)) (λ_ hk=>hk.2) (.slice aNv kL.length aMr)) (λ_ h_=>h_.1))):p:=h
theorem bBa {p:Prop} (h:p:=by(with_reducible repeat(first|refine aA8 ?_ _|refine aA9 ?_|refine aA7 ?_ _));exact b0.out):p:=h
theorem bIi {p:Prop} (h:p:=by(with_reducible repeat(first|apply Kd.aB6|apply Kd.aB5|apply Kd.aBd));exact Kd.aBs (Kd.aE5 (p:=⟨bN,1,none⟩) (Kd.aE5 (p:=⟨bN,0,none⟩) (Kd.aDk bY.out aN.out (by decide)) (λ_ hk=>hk.2) (.int .i64 ((aA3 aC a8).f0))) (λ_ hk=>hk.2) (.int .i64 ((aA3 aC a8).f1))) (λ_ hk=>trivial)):p:=h
theorem aVm {p:Prop} (h:p:=by repeat(first|(with_reducible first|exact aL4.out|apply aAi.alloc|apply aAi.drewN|apply aAi.drew|apply aAi.set_1|apply aAi.set_2)|exact aL4.out)):p:=h
theorem bIh {p:Prop} (h:p:=by first|exact Kd.aFj (Kd.aM8 dF.out (λ_ hk=>hk.2.2.1))|(rw[add_block];exact Kd.aFj (Kd.aM8 dF.out (λ_ hk=>hk.2.2.1)))|(show (Addr.add _ _).block≠_;rw[add_block];exact Kd.aFj (Kd.aM8 dF.out (λ_ hk=>hk.2.2.1)))|(dsimp only;exact Kd.aFj (Kd.aM8 dF.out (λ_ hk=>hk.2.2.1)))):p:=h
theorem bEt {p:Prop} (h:p:=by repeat(first|(with_reducible first|exact HK.out|apply Kept.alloc|apply Kept.drewN|apply Kept.drew|refine Kept.setCell ?_ (.inr aDd.out) _)|exact HK.out)):p:=h
theorem bEs {p:Prop} (h:p:=by repeat(first|(with_reducible first|exact HBW.out|apply aB7|apply aAs|apply aAx|refine aAg ?_ GWg.out)|exact HBW.out)):p:=h
theorem bIg {p:Prop} (h:p:=by(with_reducible repeat(first|apply Kd.aB6|apply Kd.aB5|apply Kd.aBd));exact(Kd.aBs (Kd.aE5 (p:=⟨dI,1,none⟩) (Kd.aE5 (p:=⟨dI,0,none⟩) (Kd.aDk eE.out dG.out (by decide)) (λ_ hk=>hk.2) (.int .i64 3)) (λ_ hk=>hk.2) (.slice aNv kL.length aMr)) (λ_ h_=>h_.1))):p:=h
theorem zzS {p:Prop} (h:p:=by simp only[Act.put,List.setIfInBounds_toArray,List.set_cons_zero,List.set_cons_succ,aFm,aMb];rfl):p:=h
theorem zzT {p:Prop} (h:p:=by go_simp;with_reducible rfl):p:=h
theorem zQ {P:Program} {ops:Array Oper} {Q:Exit->Act->World->Prop} {md:Region.Mode} {S:World->Prop} {ds:List Nat} {T:Bool×List (List Nat×List Nat)} {oi:Oper} {fuel:Nat} {l:Array Bool} {a:Act} {w:World} {v:Value} {a':Act} (i:Nat) (N:Tmp) (l':Array Bool) (h:aC8 P md ops Q S ds fuel l' a' w) (hi:ops[i]? = some oi:=by exact rfl) (hN:oi.dst=some N:=by exact rfl) (hT:aIo md ops=T:=by exact HT_.out) (hy:∀ w,(execOp a.eval oi).run P w = .ok (.value v) w:=by exact λ_=>zzT) (ha:a.put (some N) v=a':=by exact zzS)
  (hw:Region.wanted oi (yielded ops a.tmps)=true:=by rfl) (hc:bLx T l.toList l'.toList i=true:=by kernel_rfl) (hQ:∀ c a w,Q (.panic c) (a.put oi.dst v) w->Q (.panic c) a w:=by exact λ_ _ _ h=>h):aC8 P md ops Q S ds (fuel+1) l a w:=zP i N v l' hi hN hT hy a' ha h hw hc hQ
def aAi (w0 W:World) (g:Nat) (f0:List Int) (f1:Int) (f2:Int):Prop:=∃ A0 c0,W.heap[g]? = some (.cells #[.slice A0 f0.length c0,.int .i64 f1,.int .i64 f2] 62 (0,0))/\w0.heap.size<=g/\Kd.C (Kd.int .u8) w0 A0 f0.length f0
theorem aAi.grown {w0 W:World} {g:Nat} {f0:List Int} {f1:Int} {f2:Int} {W1:World} {row:Option Nat} (h:aAi w0 W g f0 f1 f2) (hw:W.grownBy W1 row) (hne:some g≠row):aAi w0 W1 g f0 f1 f2:=by
 obtain⟨A0,c0,hb,hg,hr0⟩:=h;exact⟨A0,c0,aAt hb hw hne,hg,hr0⟩
theorem aAi.aLe {w0 W:World} {g:Nat} {f0:List Int} {f1:Int} {f2:Int} {α:Type} {d:Kd α} {e:Nat} {base:Nat} {ok:Nat->Prop} {v:Value} {xs:List α} (h:aAi w0 W g f0 f1 f2) (ho:Kd.N d e W base ok v xs) (ht:e≠62):some g≠v.ownBlock:=by
 obtain⟨A0,c0,hb,hg,hr0⟩:=h;exact Kd.bRi ho hb ht
theorem aAi.fresh {w0 W:World} {g:Nat} {f0:List Int} {f1:Int} {f2:Int} (h:aAi w0 W g f0 f1 f2):∀ k,W.heap.size<=k->k≠g:=by
 obtain⟨A0,c0,hb,hg,hr0⟩:=h;exact Kd.aFb hb
theorem aAi.below {w0 W:World} {g:Nat} {f0:List Int} {f1:Int} {f2:Int} {W1:World} (h:aAi w0 W g f0 f1 f2) (hw:Below W.heap.size W W1):aAi w0 W1 g f0 f1 f2:=h.grown (aO3 hw none) (by simp)
theorem aAi.drewN {w0 W:World} {g:Nat} {f0:List Int} {f1:Int} {f2:Int} (h:aAi w0 W g f0 f1 f2) (m:Nat):aAi w0 (W.drewN m) g f0 f1 f2:=h
theorem aAi.drew {w0 W:World} {g:Nat} {f0:List Int} {f1:Int} {f2:Int} (h:aAi w0 W g f0 f1 f2):aAi w0 W.drew g f0 f1 f2:=h
theorem aAi.apart {w0 W:World} {g:Nat} {f0:List Int} {f1:Int} {f2:Int} {α:Type} {d:Kd α} {e:Nat} {base:Nat} {ok:Nat->Prop} {v:Value} {xs:List α} (h:aAi w0 W g f0 f1 f2) (ho:d.R e W base ok v xs) (ht:∀ q,q∈e::d.E->q≠62):d.R e W base (λk=>ok k/\k≠g) v xs:=by
 obtain⟨A0,c0,hb,hg,hr0⟩:=h;exact Kd.aDk ho hb ht
theorem aAi.own_ne {w0 W:World} {g:Nat} {f0:List Int} {f1:Int} {f2:Int} {α:Type} {d:Kd α} {e:Nat} {base:Nat} {ok:Nat->Prop} {v:Value} {xs:List α} (h:aAi w0 W g f0 f1 f2) (ho:d.R e W base ok v xs) (ht:e≠62):some g≠v.ownBlock:=by
 obtain⟨A0,c0,hb,hg,hr0⟩:=h;exact Kd.aF1 ho hb ht
theorem aAi.lt {w0 W:World} {g:Nat} {f0:List Int} {f1:Int} {f2:Int} (h:aAi w0 W g f0 f1 f2):g<W.heap.size:=by
 obtain⟨A0,c0,hb,hg,hr0⟩:=h;exact aCt hb
theorem aAi.ge {w0 W:World} {g:Nat} {f0:List Int} {f1:Int} {f2:Int} (h:aAi w0 W g f0 f1 f2):w0.heap.size<=g:=by
 obtain⟨A0,c0,hb,hg,hr0⟩:=h;exact hg
theorem aAi.aUu {w0 W:World} {g:Nat} {f0:List Int} {f1:Int} {f2:Int} {a:Nat} {cs:Array Value} {t:TypeId} {fr:Nat×Nat} (h:aAi w0 W g f0 f1 f2) (hb2:W.heap[a]? = some (.cells cs t fr)) (ht:t≠62):g≠a:=by
 obtain⟨A0,c0,hb,hg,hr0⟩:=h;rintro rfl;rw[hb]at hb2;injection hb2 with hb2;injection hb2 with _ ht2;exact ht ht2.symm
theorem aAi.far {w0 W:World} {g:Nat} {f0:List Int} {f1:Int} {f2:Int} {p:Addr} (h:aAi w0 W g f0 f1 f2) (hne:g≠p.block) (u:Value):aAi w0 (W.setCell p u) g f0 f1 f2:=by
 obtain⟨A0,c0,hb,hg,hr0⟩:=h;exact⟨A0,c0,aCc hb hne u,hg,hr0⟩
theorem cellS62_0 {W:World} {g:Nat} {A0:Option Addr} {c0:Nat} {f0:List Int} {f1:Int} {f2:Int} (h:W.heap[g]? = some (.cells #[.slice A0 f0.length c0,.int .i64 f1,.int .i64 f2] 62 (0,0))):W.cell? ⟨g,0,none⟩=some (.slice A0 f0.length c0):=(aAc h 0).trans rfl
theorem cellS62_1 {W:World} {g:Nat} {A0:Option Addr} {c0:Nat} {f0:List Int} {f1:Int} {f2:Int} (h:W.heap[g]? = some (.cells #[.slice A0 f0.length c0,.int .i64 f1,.int .i64 f2] 62 (0,0))):W.cell? ⟨g,1,none⟩=some (.int .i64 f1):=(aAc h 1).trans rfl
theorem aAi.set_1 {w0 W:World} {g:Nat} {f0:List Int} {f1:Int} {f2:Int} (h:aAi w0 W g f0 f1 f2) (x:Int):aAi w0 (W.setCell ⟨g,1,none⟩ (.int .i64 x)) g f0 x f2:=by
 obtain⟨A0,c0,hb,hg,hr0⟩:=h;exact⟨A0,c0,by simpa using aNo hb 1 (.int .i64 x),hg,hr0⟩
theorem cellS62_2 {W:World} {g:Nat} {A0:Option Addr} {c0:Nat} {f0:List Int} {f1:Int} {f2:Int} (h:W.heap[g]? = some (.cells #[.slice A0 f0.length c0,.int .i64 f1,.int .i64 f2] 62 (0,0))):W.cell? ⟨g,2,none⟩=some (.int .i64 f2):=(aAc h 2).trans rfl
theorem aAi.set_2 {w0 W:World} {g:Nat} {f0:List Int} {f1:Int} {f2:Int} (h:aAi w0 W g f0 f1 f2) (x:Int):aAi w0 (W.setCell ⟨g,2,none⟩ (.int .i64 x)) g f0 f1 x:=by
 obtain⟨A0,c0,hb,hg,hr0⟩:=h;exact⟨A0,c0,by simpa using aNo hb 2 (.int .i64 x),hg,hr0⟩
def aBu.l0:Nat->List Int->Int->Int->Option (List Int×Int×Int)
 | 0,_,_,_=>none
 | k+1,x0,x3,x4=>if x4<(x0.length:Int) then(if x4<4000 then(if 0<=x4 then(aBu.l0 k x0 (Go.bits .and .i64 (wrap64 ((wrap64 ((wrap64 (x3*97))+(wrap64 (rd x0 x4))))+7)) 1073741823) (wrap64 (x4+1))) else(none)) else(some (x0,0,x3))) else(some (x0,0,x3))
def aBu.f (k:Nat) (l0:List Int):Option (List Int×Int×Int):=aBu.l0 k l0 (wrap64 (2069+(l0.length:Int))) 0
theorem aBu.aBp:∀ k,(∀ y0 y1 y2,LeO (aBu.l0 k y0 y1 y2) (aBu.l0 (k+1) y0 y1 y2))
 | 0=>λ_ _ _ r h=>by simp[aBu.l0]at h
 | k+1=>by
  have ih0:=aBu.aBp k
  ·intro y0 y1 y2
   unfold aBu.l0
   exact zm0
theorem aBu.mono:∀ a0 k,LeO (aBu.f k a0) (aBu.f (k+1) a0):=by
 intro a0 k;have ih0:=aBu.aBp k;unfold aBu.f;exact zm0
theorem aBu.bE7 (k:Nat) (A0:Option Addr) (c0:Nat) (l0:List Int) (r1:List Int) (r2:Int) (r3:Int) (w0 w:World) (hB:Below w0.heap.size w0 w) (hr0:Kd.C (Kd.int .u8) w0 A0 l0.length l0) (hc0:l0.length<=c0) (h:aBu.f k l0=some (r1,r2,r3)) :
  Calls Tryz.prog 16 #[.slice A0 l0.length c0] w λe w'=>∃ g_:Nat,e = .returned (.pointer (some ⟨g_,0,none⟩))/\aAi w0 w' g_ r1 r2 r3/\Below w0.heap.size w0 w'/\Below w.heap.size w w'/\w.heap.size<=g_:=by
 have bVl:=Tryz.underlying62;have HR0:=zK_ hr0;have HC0:=zK_ hc0;clear hr0 hc0;have HBW:=zK_ (Below.refl w.heap.size w);have HW0:=zK_ hB.size;have HB:=zK_ hB;clear hB;have H:(aBu.l0 k l0 (wrap64 (2069+(l0.length:Int))) 0)=some (r1,r2,r3):=h;clear h;have H':=zK_ H;clear H;go_enter Tryz.func16,Tryz.ntmps16;go_wp2;(go_loopg [3,4] k (λkq v3 v4 w'=>∃ (dH:Int) (bJ:Int),v3 = .int .i64 dH/\v4 = .int .i64 bJ/\aA2 (aBu.l0 kq l0 dH bJ=some (r1,r2,r3))/\aA2 (kq<=k)/\aA2 (Below w0.heap.size w0 w')/\aA2 (Below w.heap.size w w')));case atStart=>exact⟨(wrap64 (2069+(l0.length:Int))),(0),zz6,zz6,H',⟨Nat.le_refl _⟩,⟨zz2⟩,⟨by repeat(first|(with_reducible first|exact HBW.out|apply aB7|apply aAs|apply aAx)|exact HBW.out)⟩⟩
 case round =>
  clear H';(try clear c1);obtain⟨dH,bJ,rfl,rfl,HA,HK1,HB,HBW⟩:=hrel
  cases gk with
  | zero=>exact absurd HA.out (by simp[aBu.l0])
  | succ k1 =>
   have H:=HA.out;clear HA;simp only[aBu.l0]at H;by_cases c2:bJ<(l0.length:Int);rotate_left
   ·rw[if_neg c2]at H;have mH:=zdN c2;clear c2;simp only[Option.some.injEq,Prod.mk.injEq]at H;obtain⟨rfl,rfl,rfl⟩:=H;(go_wp2_with (first|((with_reducible refine aAj (N:=31) rfl ?_);refine aAf ?hg (N:=31) ?hd (cs:=#[.slice A0 l0.length c0,.int .i64 0,.int .i64 dH]) (t:=62) ?hr ?_;(case hd=>rfl);(case hg=>rfl);(case hr=>exact aD9);intro cG hg w6 hbox hb;have n_:=zA5 (aA1 HBW.out hb) (aA1 zz2 hb) hbox (by rw[hg];exact(aAa bHp):w.heap.size<=cG) (Nat.le_trans HW0.out (by rw[hg];exact(aAa bHp):w.heap.size<=cG):w0.heap.size<=cG);clear HBW HB;obtain⟨HBW,HB,b0,aMc,aMd⟩:=n_;clear hb hbox hg)));go_ret;exact⟨_,rfl,(show aAi w0 _ cG l0 0 dH from ⟨_,_,by(with_reducible repeat(first|refine aA8 ?_ _|refine aA9 ?_|refine aA7 ?_ _));exact b0.out,aMd.out,HR0.out⟩),by repeat(first|(with_reducible first|exact HB.out|apply aB7|apply aAs|apply aAx|refine aAg ?_ aMd.out)|exact HB.out),by repeat(first|(with_reducible first|exact HBW.out|apply aB7|apply aAs|apply aAx|refine aAg ?_ aMc.out)|exact HBW.out),aMc.out⟩
   rw[if_pos c2]at H;have mH:=zdY c2;clear c2;by_cases c3:bJ<4000;rotate_left
   ·rw[if_neg c3]at H;have gX:=zdN c3;clear c3;simp only[Option.some.injEq,Prod.mk.injEq]at H;obtain⟨rfl,rfl,rfl⟩:=H;(go_wp2_with (first|((with_reducible refine aAj (N:=31) rfl ?_);refine aAf ?hg (N:=31) ?hd (cs:=#[.slice A0 l0.length c0,.int .i64 0,.int .i64 dH]) (t:=62) ?hr ?_;(case hd=>rfl);(case hg=>rfl);(case hr=>exact aD9);intro aU hg w5 hbox hb;have n_:=zA5 (aA1 HBW.out hb) (aA1 zz2 hb) hbox (by rw[hg];exact(aAa bHp):w.heap.size<=aU) (Nat.le_trans HW0.out (by rw[hg];exact(aAa bHp):w.heap.size<=aU):w0.heap.size<=aU);clear HBW HB;obtain⟨HBW,HB,aI,aGo,aFv⟩:=n_;clear hb hbox hg)));go_ret;exact⟨_,rfl,(show aAi w0 _ aU l0 0 dH from ⟨_,_,zz8,aFv.out,HR0.out⟩),bBf,by repeat(first|(with_reducible first|exact HBW.out|apply aB7|apply aAs|apply aAx|refine aAg ?_ aGo.out)|exact HBW.out),aGo.out⟩
   rw[if_pos c3]at H;have gX:=zdY c3;clear c3;by_cases c4:0<=bJ;rotate_left
   ·rw[if_neg c4]at H;exact absurd H (by simp)
   rw[if_pos c4]at H;have gW:=zdY c4;clear c4;have H':=zK_ H;clear H;have aDu:0<=(bJ:Int):=zdT zz4;have aDt:bJ<(l0.length:Int):=zdT zz4;obtain⟨d7,aFt,bM⟩:=Kd.aCl HR0.out bJ aDu aDt;cases aFt;replace bM:=aIc HB.out bM;replace aDu:=eq_true aDu;replace aDt:=eq_true aDt;go_wp2;go_roundg k1;(case measure=>have:=HK1.out;omega);case rel=>exact⟨(Go.bits .and .i64 (wrap64 ((wrap64 ((wrap64 (dH*97))+(wrap64 (rd l0 bJ))))+7)) 1073741823),(wrap64 (bJ+1)),zz6,zz6,H',⟨aHl⟩,⟨zz2⟩,⟨by repeat(first|(with_reducible first|exact HBW.out|apply aB7|apply aAs|apply aAx)|exact HBW.out)⟩⟩
theorem aBu.calls (k:Nat) (A0:Option Addr) (c0:Nat) (l0:List Int) (r1:List Int) (r2:Int) (r3:Int) (w0 w:World) (hB:Below w0.heap.size w0 w) (hr0:Kd.C (Kd.int .u8) w0 A0 l0.length l0) (hc0:l0.length<=c0) (h:aBu.f k l0=some (r1,r2,r3)) :
  Calls Tryz.prog 16 #[.slice A0 l0.length c0] w λe w'=>∃ g_:Nat,e = .returned (.pointer (some ⟨g_,0,none⟩))/\aAi w0 w' g_ r1 r2 r3/\Below w0.heap.size w0 w'/\Below w.heap.size w w':=by
 refine(aBu.bE7 k A0 c0 l0 r1 r2 r3 w0 w hB hr0 hc0 h).mono ?_;rintro e w' ⟨g_,rfl,hi,hb,hb2,_⟩;exact⟨g_,rfl,hi,hb,hb2⟩
def aCf.f (s0_0:List Int) (s0_1:Int) (s0_2:Int):Option (Int×Int×Int):=if s0_1<(s0_0.length:Int) then(if 0<=s0_1 then(some (Go.bits .and .i64 (wrap64 ((Go.bits .and .i64 (Go.bits .xor .i64 ((wrap64 ((wrap64 (s0_2*6364136223846793005))+1442695040888963407))/8589934592) ((wrap64 ((wrap64 (s0_2*6364136223846793005))+1442695040888963407))/35184372088832)) 255)+(wrap64 (rd s0_0 s0_1)))) 255,wrap64 (s0_1+1),wrap64 ((wrap64 (s0_2*6364136223846793005))+1442695040888963407))) else(none)) else(some (Go.bits .and .i64 (Go.bits .xor .i64 ((wrap64 ((wrap64 (s0_2*6364136223846793005))+1442695040888963407))/8589934592) ((wrap64 ((wrap64 (s0_2*6364136223846793005))+1442695040888963407))/35184372088832)) 255,s0_1,wrap64 ((wrap64 (s0_2*6364136223846793005))+1442695040888963407)))
theorem aCf.calls (g:Nat) (s0_0:List Int) (s0_1:Int) (s0_2:Int) (r1:Int) (r2:Int) (r3:Int) (w0 w:World) (hI:aAi w0 w g s0_0 s0_1 s0_2) (hB:Below w0.heap.size w0 w) (h:aCf.f s0_0 s0_1 s0_2=some (r1,r2,r3)) :
  Calls Tryz.prog 21 #[.pointer (some ⟨g,0,none⟩)] w λe w'=>e = .returned (.int .i64 r1)/\aAi w0 w' g s0_0 r2 r3/\Below w0.heap.size w0 w'/\aAw w w' g none:=by
 have HI0:=zK_ hI;have HK:=zK_ (aAw.refl w g none);have HL:=zK_ hB.size;clear hI;have HW0:=zK_ hB.size;have HB:=zK_ hB;clear hB;have H:(if s0_1<(s0_0.length:Int) then(if 0<=s0_1 then(some (Go.bits .and .i64 (wrap64 ((Go.bits .and .i64 (Go.bits .xor .i64 ((wrap64 ((wrap64 (s0_2*6364136223846793005))+1442695040888963407))/8589934592) ((wrap64 ((wrap64 (s0_2*6364136223846793005))+1442695040888963407))/35184372088832)) 255)+(wrap64 (rd s0_0 s0_1)))) 255,wrap64 (s0_1+1),wrap64 ((wrap64 (s0_2*6364136223846793005))+1442695040888963407))) else(none)) else(some (Go.bits .and .i64 (Go.bits .xor .i64 ((wrap64 ((wrap64 (s0_2*6364136223846793005))+1442695040888963407))/8589934592) ((wrap64 ((wrap64 (s0_2*6364136223846793005))+1442695040888963407))/35184372088832)) 255,s0_1,wrap64 ((wrap64 (s0_2*6364136223846793005))+1442695040888963407))))=some (r1,r2,r3):=h;clear h;by_cases c2:s0_1<(s0_0.length:Int);rotate_left
 ·rw[if_neg c2]at H;have mH:=zdN c2;clear c2;simp only[Option.some.injEq,Prod.mk.injEq]at H;obtain⟨rfl,rfl,rfl⟩:=H;obtain⟨ASz5_0,cSz5_0,bI8,bTe,HSz5_0⟩:=HI0.out;have lI:=cellS62_0 bI8;have lH:=cellS62_1 bI8;have MZ:=cellS62_2 bI8;have lG:=aA0 bI8 1;have MO:=aA0 bI8 2;clear bI8 bTe;go_enter Tryz.func21,Tryz.ntmps21;go_wp2;(repeat(go_quiet (fail);try go_wp2));go_ret;exact⟨zz7,bAn,aWz,aRx⟩
 rw[if_pos c2]at H;have mH:=zdY c2;clear c2;by_cases c3:0<=s0_1;rotate_left
 ·rw[if_neg c3]at H;exact absurd H (by simp)
 rw[if_pos c3]at H;have gX:=zdY c3;clear c3;simp only[Option.some.injEq,Prod.mk.injEq]at H;obtain⟨rfl,rfl,rfl⟩:=H;obtain⟨ASz4_0,cSz4_0,bI9,bTf,HSz4_0⟩:=HI0.out;have sY:=cellS62_0 bI9;have sX:=cellS62_1 bI9;have M0:=cellS62_2 bI9;have sW:=aA0 bI9 1;have MP:=aA0 bI9 2;clear bI9 bTf;have aDu:0<=(s0_1:Int):=zdT zz4;have aDt:s0_1<(s0_0.length:Int):=zdT zz4;obtain⟨d7,aFt,bM⟩:=Kd.aCl HSz4_0 s0_1 aDu aDt;cases aFt;have hn101_0:d7.block≠g:=Nat.ne_of_lt (Nat.lt_of_lt_of_le (by have:=World.block_lt_of_cell? _ _ bM;first|rwa[add_block]at this|exact this) (aAi.ge HI0.out));replace bM:=aIc HB.out bM;replace bM:=(cell_far (p:=⟨g,2,none⟩) (by first|(rw[add_block];exact hn101_0)|(show (Addr.add _ _).block≠_;rw[add_block];exact hn101_0)|exact hn101_0) (.int .i64 (wrap64 ((wrap64 (s0_2*6364136223846793005))+1442695040888963407)))).trans bM;(try have hy101_0:=λ(n_:Nat)=>(show (((w.drewN n_).setCell ⟨g,2,none⟩ (.int .i64 (wrap64 ((wrap64 (s0_2*6364136223846793005))+1442695040888963407))))).cell? _=some _ from bM));clear hn101_0;replace aDu:=eq_true aDu;replace aDt:=eq_true aDt;go_enter Tryz.func21,Tryz.ntmps21;go_wp2;(repeat(go_quiet (fail);try go_wp2));go_ret;exact⟨zz7,bAn,aWz,aRx⟩
def aBw.f (s0_0:List Int) (s0_1:Int) (s0_2:Int) (a1:Int):Option (Int×Int×Int):=if a1<=0 then(some (0,s0_1,s0_2)) else(if a1<=256 then((aCf.f s0_0 s0_1 s0_2).bind λb5=>(if a1=0 then(none) else(some (Int.tmod b5.1 a1,b5.2.1,b5.2.2)))) else((aCf.f s0_0 s0_1 s0_2).bind λpS=>((aCf.f s0_0 pS.2.1 pS.2.2).bind λpR=>((aCf.f s0_0 pR.2.1 pR.2.2).bind λg7=>((aCf.f s0_0 g7.2.1 g7.2.2).bind λkK=>(if a1=0 then(none) else(some (Int.tmod (wrap64 ((wrap64 ((wrap64 ((wrap64 (pS.1*16777216))+(wrap64 (pR.1*65536))))+(wrap64 (g7.1*256))))+kK.1)) a1,kK.2.1,kK.2.2))))))))
theorem aBw.calls (g:Nat) (s0_0:List Int) (s0_1:Int) (s0_2:Int) (a1:Int) (r1:Int) (r2:Int) (r3:Int) (w0 w:World) (hI:aAi w0 w g s0_0 s0_1 s0_2) (hB:Below w0.heap.size w0 w) (h:aBw.f s0_0 s0_1 s0_2 a1=some (r1,r2,r3)) :
  Calls Tryz.prog 19 #[.pointer (some ⟨g,0,none⟩),.int .i64 a1] w λe w'=>e = .returned (.int .i64 r1)/\aAi w0 w' g s0_0 r2 r3/\Below w0.heap.size w0 w'/\aAw w w' g none:=by
 have HI0:=zK_ hI;have HK:=zK_ (aAw.refl w g none);have HL:=zK_ hB.size;clear hI;have HW0:=zK_ hB.size;have HB:=zK_ hB;clear hB;have H:(if a1<=0 then(some (0,s0_1,s0_2)) else(if a1<=256 then((aCf.f s0_0 s0_1 s0_2).bind λb5=>(if a1=0 then(none) else(some (Int.tmod b5.1 a1,b5.2.1,b5.2.2)))) else((aCf.f s0_0 s0_1 s0_2).bind λpS=>((aCf.f s0_0 pS.2.1 pS.2.2).bind λpR=>((aCf.f s0_0 pR.2.1 pR.2.2).bind λg7=>((aCf.f s0_0 g7.2.1 g7.2.2).bind λkK=>(if a1=0 then(none) else(some (Int.tmod (wrap64 ((wrap64 ((wrap64 ((wrap64 (pS.1*16777216))+(wrap64 (pR.1*65536))))+(wrap64 (g7.1*256))))+kK.1)) a1,kK.2.1,kK.2.2)))))))))=some (r1,r2,r3):=h;clear h;by_cases c3:a1<=0
 ·rw[if_pos c3]at H;have gX:=zdY c3;clear c3;simp only[Option.some.injEq,Prod.mk.injEq]at H;obtain⟨rfl,rfl,rfl⟩:=H;go_enter Tryz.func19,Tryz.ntmps19;go_wp2;go_ret;exact⟨zz7,bAn,aWz,aRx⟩
 rw[if_neg c3]at H;have gX:=zdN c3;clear c3;by_cases c4:a1<=256
 ·rw[if_pos c4]at H;have gW:=zdY c4;clear c4;replace H:=zO_ H;obtain⟨⟨bO,aQ,a6⟩,A50,H⟩:=H;dsimp only at H;have A5:=zK_ A50;clear A50;by_cases c6:a1=0
  ·rw[if_pos c6]at H;exact absurd H (by simp)
  rw[if_neg c6]at H;have iO:(a1==0)=false:=beq_eq_false_iff_ne.mpr c6;have nP:(a1 != 0)=true:=bne_iff_ne.mpr c6;simp only[Option.some.injEq,Prod.mk.injEq]at H;obtain⟨rfl,rfl,rfl⟩:=H;go_enter Tryz.func19,Tryz.ntmps19;(go_wp2_with (first|((with_reducible refine aA5 (f:=21) rfl ?_);refine aB8 (some 14) rfl rfl Tryz.func21 (by kernel_rfl) rfl #[.pointer (some ⟨g,0,none⟩)] rfl zz3 ?_;(with_reducible refine(aCf.calls g s0_0 s0_1 s0_2 bO aQ a6 w0 _ ?side1 ?side2 A5.out).mono ?_);(case side1=>exact bAn);(case side2=>exact aWz);rintro e w7 ⟨rfl,hi,hb,hk⟩;refine⟨_,rfl,?_⟩;have n_:=zA3 (aAw.trans aRx hk (.inl rfl)) hb hi;clear HK HB HI0;obtain⟨HK,HB,HI0⟩:=n_;clear hi hb hk)));go_ret;exact⟨zz7,bAn,aWz,aRx⟩
 rw[if_neg c4]at H;have gW:=zdN c4;clear c4;replace H:=zO_ H;obtain⟨⟨gJ,fA,b6⟩,A80,H⟩:=H;dsimp only at H;have A8:=zK_ A80;clear A80;replace H:=zO_ H;obtain⟨⟨cY,eO,cV⟩,A90,H⟩:=H;dsimp only at H;have A9:=zK_ A90;clear A90;replace H:=zO_ H;obtain⟨⟨cM,eX,qN⟩,bMz,H⟩:=H;dsimp only at H;have A10:=zK_ bMz;clear bMz;replace H:=zO_ H;obtain⟨⟨lT,f9,vN⟩,bAm,H⟩:=H;dsimp only at H;have A11:=zK_ bAm;clear bAm;by_cases c12:a1=0
 ·rw[if_pos c12]at H;exact absurd H (by simp)
 rw[if_neg c12]at H;have nI:(a1==0)=false:=beq_eq_false_iff_ne.mpr c12;have sB:(a1 != 0)=true:=bne_iff_ne.mpr c12;simp only[Option.some.injEq,Prod.mk.injEq]at H;obtain⟨rfl,rfl,rfl⟩:=H;go_enter Tryz.func19,Tryz.ntmps19;(go_wp2_with (first|((with_reducible refine aA5 (f:=21) rfl ?_);refine aB8 (some 18) rfl rfl Tryz.func21 (by kernel_rfl) rfl #[.pointer (some ⟨g,0,none⟩)] rfl zz3 ?_;(with_reducible refine(aCf.calls g s0_0 s0_1 s0_2 gJ fA b6 w0 _ ?side1 ?side2 A8.out).mono ?_);(case side1=>exact bAn);(case side2=>exact aWz);rintro e w13 ⟨rfl,hi,hb,hk⟩;refine⟨_,rfl,?_⟩;have n_:=zA3 (aAw.trans aRx hk (.inl rfl)) hb hi;clear HK HB HI0;obtain⟨HK,HB,HI0⟩:=n_;clear hi hb hk)|((with_reducible refine aA5 (f:=21) rfl ?_);refine aB8 (some 20) rfl rfl Tryz.func21 (by kernel_rfl) rfl #[.pointer (some ⟨g,0,none⟩)] rfl zz3 ?_;(with_reducible refine(aCf.calls g s0_0 fA b6 cY eO cV w0 _ ?side1 ?side2 A9.out).mono ?_);(case side1=>exact bAn);(case side2=>exact aWz);rintro e w14 ⟨rfl,hi,hb,hk⟩;refine⟨_,rfl,?_⟩;have n_:=zA3 (aAw.trans aRx hk (.inl rfl)) hb hi;clear HK HB HI0;obtain⟨HK,HB,HI0⟩:=n_;clear hi hb hk)|((with_reducible refine aA5 (f:=21) rfl ?_);refine aB8 (some 22) rfl rfl Tryz.func21 (by kernel_rfl) rfl #[.pointer (some ⟨g,0,none⟩)] rfl zz3 ?_;(with_reducible refine(aCf.calls g s0_0 eO cV cM eX qN w0 _ ?side1 ?side2 A10.out).mono ?_);(case side1=>exact bAn);(case side2=>exact aWz);rintro e w15 ⟨rfl,hi,hb,hk⟩;refine⟨_,rfl,?_⟩;have n_:=zA3 (aAw.trans aRx hk (.inl rfl)) hb hi;clear HK HB HI0;obtain⟨HK,HB,HI0⟩:=n_;clear hi hb hk)|((with_reducible refine aA5 (f:=21) rfl ?_);refine aB8 (some 24) rfl rfl Tryz.func21 (by kernel_rfl) rfl #[.pointer (some ⟨g,0,none⟩)] rfl zz3 ?_;(with_reducible refine(aCf.calls g s0_0 eX qN lT f9 vN w0 _ ?side1 ?side2 A11.out).mono ?_);(case side1=>exact bAn);(case side2=>exact aWz);rintro e w16 ⟨rfl,hi,hb,hk⟩;refine⟨_,rfl,?_⟩;have n_:=zA3 (aAw.trans aRx hk (.inl rfl)) hb hi;clear HK HB HI0;obtain⟨HK,HB,HI0⟩:=n_;clear hi hb hk)));go_ret;exact⟨zz7,bAn,aWz,aRx⟩
def aD7.f (aD:Int) (aC:List (S46)) (a1:Int):Option (Bool):=if a1≥0 then(some (decide (a1<aD))) else(some false)
theorem aD7.calls (aD:Int) (aH:Option Addr) (aG:Nat) (aC:List (S46)) (a1:Int) (r:Bool) (w:World) (hr0_1:Kd.C k46 w aH aC.length aC) (hc0_1:aC.length<=aG) (h:aD7.f aD aC a1=some r) :
  Calls Tryz.prog 90 #[.agg #[.int .i64 aD,.slice aH aC.length aG],.int .i64 a1] w λe w'=>e = .returned (.bool r)/\Below w.heap.size w w':=by
 have aI5:=Tryz.underlying25;have b3:=zK_ hr0_1;have bE:=zK_ hc0_1;clear hr0_1 hc0_1;have HB:=zK_ (Below.refl w.heap.size w);have H:(if a1≥0 then(some (decide (a1<aD))) else(some false))=some r:=h;clear h;by_cases c3:a1≥0
 ·rw[if_pos c3]at H;have gX:decide (0<=a1)=true:=zdY c3;clear c3;obtain rfl:=zdI H;go_enter Tryz.func90,Tryz.ntmps90;(go_wp2_with (first|((with_reducible refine aAj (N:=2) rfl ?_);refine aAf ?hg (N:=2) ?hd (cs:=#[.int .i64 aD,.slice aH aC.length aG]) (t:=25) ?hr ?_;(case hd=>rfl);(case hg=>rfl);(case hr=>exact aD9);intro aE hg w4 hbox hb;have n_:=zA4 (aA1 zz2 hb) hbox (aDl:w.heap.size<=aE) (aDl:w.heap.size<=aE);clear HB;obtain⟨HB,aA,aDd,aD2⟩:=n_;clear hb hbox hg;have lI:=aCe aA;have lH:=aCd aA;have lZ:=aA0 aA.out 0;have lG:=aA0 aA.out 1)));go_ret;exact⟨zz7,zz0⟩
 rw[if_neg c3]at H;have gX:decide (0<=a1)=false:=zdN c3;clear c3;obtain rfl:=zdI H;go_enter Tryz.func90,Tryz.ntmps90;(go_wp2_with (first|((with_reducible refine aAj (N:=2) rfl ?_);refine aAf ?hg (N:=2) ?hd (cs:=#[.int .i64 aD,.slice aH aC.length aG]) (t:=25) ?hr ?_;(case hd=>rfl);(case hg=>rfl);(case hr=>exact aD9);intro aE hg w6 hbox hb;have n_:=zA4 (aA1 zz2 hb) hbox (aDl:w.heap.size<=aE) (aDl:w.heap.size<=aE);clear HB;obtain⟨HB,aA,aDd,aD2⟩:=n_;clear hb hbox hg)));go_ret;exact⟨zz7,zz0⟩
mutual
def aAh.j0:Nat->Int->Int->Int->Bool->Int->List (S46)->Option (Int)
 | 0,_,_,_,_,_,_=>none
 | k+1,x1,x2,x7,xN,aY,aW=>if xN=true then(some 0) else(aAh.l0 k x1 x2 x7 aW (aW.length:Int) 0)
def aAh.l0:Nat->Int->Int->Int->List (S46)->Int->Int->Option (Int)
 | 0,_,_,_,_,_,_=>none
 | k+1,x1,x2,x7,vH,xG,sN=>if sN<xG then(if 0<=sN then(if sN<(vH.length:Int) then(if((aA3 vH sN).f0)=(mn x1 x2) then(if((aA3 vH sN).f1)=(mx x1 x2) then(aAh.l0 k x1 x2 (wrap64 (x7+1)) vH xG (wrap64 (sN+1))) else(aAh.l0 k x1 x2 x7 vH xG (wrap64 (sN+1)))) else(aAh.l0 k x1 x2 x7 vH xG (wrap64 (sN+1)))) else(none)) else(none)) else(some x7)
end
def aAh.f (k:Nat) (aD:Int) (aC:List (S46)) (a1:Int) (a2:Int):Option (Int):=(aD7.f aD aC a1).bind λaQ=>(if aQ=true then((aD7.f aD aC a2).bind λa6=>(if a6=true then(aAh.j0 k a1 a2 0 (a1==a2) aD aC) else(aAh.j0 k a1 a2 0 true aD aC))) else(aAh.j0 k a1 a2 0 true aD aC))
theorem aAh.aBp:∀ k,(∀ y0 y1 y2 y3 y4 y5,LeO (aAh.j0 k y0 y1 y2 y3 y4 y5) (aAh.j0 (k+1) y0 y1 y2 y3 y4 y5))/\(∀ y0 y1 y2 y3 y4 y5,LeO (aAh.l0 k y0 y1 y2 y3 y4 y5) (aAh.l0 (k+1) y0 y1 y2 y3 y4 y5))
 | 0=>⟨λ_ _ _ _ _ _ r h=>by simp[aAh.j0]at h,λ_ _ _ _ _ _ r h=>by simp[aAh.l0]at h⟩
 | k+1=>by
  obtain⟨ih0,ih1⟩:=aAh.aBp k
  refine⟨?_,?_⟩
  ·intro y0 y1 y2 y3 y4 y5
   unfold aAh.j0
   exact zm1
  ·intro y0 y1 y2 y3 y4 y5
   unfold aAh.l0
   exact zm1
theorem aAh.mono:∀ a0 a1 a2 a3 k,LeO (aAh.f k a0 a1 a2 a3) (aAh.f (k+1) a0 a1 a2 a3):=by
 intro a0 a1 a2 a3 k;obtain⟨ih0,ih1⟩:=aAh.aBp k;unfold aAh.f;exact zm1
theorem aAh.calls (k:Nat) (aD:Int) (aH:Option Addr) (aG:Nat) (aC:List (S46)) (a1:Int) (a2:Int) (r:Int) (w:World) (hr0_1:Kd.C k46 w aH aC.length aC) (hc0_1:aC.length<=aG) (h:aAh.f k aD aC a1 a2=some r) :
  Calls Tryz.prog 65 #[.agg #[.int .i64 aD,.slice aH aC.length aG],.int .i64 a1,.int .i64 a2] w λe w'=>e = .returned (.int .i64 r)/\Below w.heap.size w w':=by
 have aI5:=Tryz.underlying25;have aV7:=Tryz.underlying46;have b3:=zK_ hr0_1;have bE:=zK_ hc0_1;clear hr0_1 hc0_1;have HB:=zK_ (Below.refl w.heap.size w);have H:((aD7.f aD aC a1).bind λaQ=>(if aQ=true then((aD7.f aD aC a2).bind λa6=>(if a6=true then(aAh.j0 k a1 a2 0 (a1==a2) aD aC) else(aAh.j0 k a1 a2 0 true aD aC))) else(aAh.j0 k a1 a2 0 true aD aC)))=some r:=h;clear h;have HC4:=zK_ H;clear H;go_enter Tryz.func65,Tryz.ntmps65;(go_upto_region 2 with (first|((with_reducible refine aAj (N:=3) rfl ?_);(try(refine aC1 (by rfl) ?_;dsimp only));refine aAf ?hg (N:=3) ?hd (cs:=#[.int .i64 aD,.slice aH aC.length aG]) (t:=25) ?hr ?_;(case hd=>rfl);(case hg=>rfl);(case hr=>exact aD9);intro aE hg w5 hbox hb;have n_:=zA4 (aA1 zz2 hb) hbox (aDl:w.heap.size<=aE) (aDl:w.heap.size<=aE);clear HB;obtain⟨HB,aA,aDd,aD2⟩:=n_;clear hb hbox hg)));(try simp only[Act.put,List.setIfInBounds_toArray,List.set_cons_zero,List.set_cons_succ]);go_cut [24] (λv24 wc=>∃ (kq:Nat) (tF:Bool),v24 = .bool tF/\aA2 (aAh.j0 kq a1 a2 0 tF aD aC=some r)/\aA2 (kq<=k)/\aA2 (wc.heap[aE]? = some (.cells #[.int .i64 aD,(.slice aH aC.length aG)] 25 (0,0)))/\aA2 (Below w.heap.size w wc))
 case first =>
  have H:=HC4.out;clear HC4;obtain⟨aQ,A60,H⟩:=zO_ H;(try dsimp only at H);have A6:=zK_ A60;clear A60;by_cases c7:aQ=true;rotate_left
  ·replace c7:=zdB c7;subst c7;rw[if_neg (show ¬ (false=true) by decide)]at H;have H':=zK_ H;clear H;have q3:=aCe aA;have qZ:=aCd aA;have qY:=aA0 aA.out 0;have qX:=aA0 aA.out 1;(go_wp2_with (first|((with_reducible refine aA5 (f:=90) rfl ?_);refine aB8 (some 12) rfl rfl Tryz.func90 (by kernel_rfl) rfl #[.agg #[.int .i64 aD,.slice aH aC.length aG],.int .i64 a1] rfl zz3 ?_;(with_reducible refine(aD7.calls aD _ _ aC a1 false _ ?side1 ?side2 A6.out).mono ?_);(case side1=>exact zz5);(case side2=>exact bE.out);rintro e w19 ⟨rfl,hb⟩;refine⟨_,rfl,?_⟩;have n_:=zA2 (aA4 (g:=aE) (o:=.cells #[.int .i64 aD,.slice aH aC.length aG] 25 (0,0)) zz1 hb) (aA1 zz0 hb);clear aA HB;obtain⟨aA,HB⟩:=n_;clear hb)));(go_meet);case rel=>exact⟨_,(true),zz6,H',⟨by first|omega|exact Nat.le_refl _⟩,⟨zz1⟩,⟨zz0⟩⟩
  subst c7;rw[if_pos rfl]at H;obtain⟨a6,A80,H⟩:=zO_ H;(try dsimp only at H);have A8:=zK_ A80;clear A80;by_cases c9:a6=true
  ·subst c9;rw[if_pos rfl]at H;have H':=zK_ H;clear H;have eW:=aCe aA;have eV:=aCd aA;have eT:=aA0 aA.out 0;have eS:=aA0 aA.out 1;(go_wp2_with (first|((with_reducible refine aA5 (f:=90) rfl ?_);refine aB8 (some 12) rfl rfl Tryz.func90 (by kernel_rfl) rfl #[.agg #[.int .i64 aD,.slice aH aC.length aG],.int .i64 a1] rfl zz3 ?_;(with_reducible refine(aD7.calls aD _ _ aC a1 true _ ?side1 ?side2 A6.out).mono ?_);(case side1=>exact zz5);(case side2=>exact bE.out);rintro e w11 ⟨rfl,hb⟩;refine⟨_,rfl,?_⟩;have n_:=zA2 (aA4 (g:=aE) (o:=.cells #[.int .i64 aD,.slice aH aC.length aG] 25 (0,0)) zz1 hb) (aA1 zz0 hb);clear aA HB;obtain⟨aA,HB⟩:=n_;clear hb;have kU:=aCe aA;have kT:=aCd aA;have kS:=aA0 aA.out 0;have kR:=aA0 aA.out 1)|(go_at_call 90;(with_reducible refine(aD7.calls aD _ _ aC a2 true _ ?side1 ?side2 A8.out).mono ?_);(case side1=>exact zz5);(case side2=>exact bE.out);rintro e w13 ⟨rfl,hb⟩;have n_:=zA2 (aA4 (g:=aE) (o:=.cells #[.int .i64 aD,.slice aH aC.length aG] 25 (0,0)) zz1 hb) (aA1 zz0 hb);clear aA HB;obtain⟨aA,HB⟩:=n_;(try clear hb);(try clear hb2);(try clear hk);(try clear hi))));(go_meet);case rel=>exact⟨_,((a1==a2)),zz6,H',⟨by first|omega|exact Nat.le_refl _⟩,⟨zz1⟩,⟨zz0⟩⟩
  replace c9:=zdB c9;subst c9;rw[if_neg (show ¬ (false=true) by decide)]at H;have H':=zK_ H;clear H;have iG:=aCe aA;have iF:=aCd aA;have iE:=aA0 aA.out 0;have iD:=aA0 aA.out 1;(go_wp2_with (first|((with_reducible refine aA5 (f:=90) rfl ?_);refine aB8 (some 12) rfl rfl Tryz.func90 (by kernel_rfl) rfl #[.agg #[.int .i64 aD,.slice aH aC.length aG],.int .i64 a1] rfl zz3 ?_;(with_reducible refine(aD7.calls aD _ _ aC a1 true _ ?side1 ?side2 A6.out).mono ?_);(case side1=>exact zz5);(case side2=>exact bE.out);rintro e w15 ⟨rfl,hb⟩;refine⟨_,rfl,?_⟩;have n_:=zA2 (aA4 (g:=aE) (o:=.cells #[.int .i64 aD,.slice aH aC.length aG] 25 (0,0)) zz1 hb) (aA1 zz0 hb);clear aA HB;obtain⟨aA,HB⟩:=n_;clear hb;have nC:=aCe aA;have nB:=aCd aA;have m6:=aA0 aA.out 0;have m5:=aA0 aA.out 1)|(go_at_call 90;(with_reducible refine(aD7.calls aD _ _ aC a2 false _ ?side1 ?side2 A8.out).mono ?_);(case side1=>exact zz5);(case side2=>exact bE.out);rintro e w17 ⟨rfl,hb⟩;have n_:=zA2 (aA4 (g:=aE) (o:=.cells #[.int .i64 aD,.slice aH aC.length aG] 25 (0,0)) zz1 hb) (aA1 zz0 hb);clear aA HB;obtain⟨aA,HB⟩:=n_;(try clear hb);(try clear hb2);(try clear hk);(try clear hi))));(go_meet);case rel=>exact⟨_,(true),zz6,H',⟨by first|omega|exact Nat.le_refl _⟩,⟨zz1⟩,⟨zz0⟩⟩
 case rest =>
  clear HC4;(try clear p2);(try clear c6);(try clear c7);(try clear c9);(try clear eW);(try clear eV);(try clear kU);(try clear kT);(try clear iG);(try clear iF);(try clear nC);(try clear nB);(try clear q3);(try clear qZ);(try clear eT);(try clear eS);(try clear kS);(try clear kR);(try clear iE);(try clear iD);(try clear m6);(try clear m5);(try clear qY);(try clear qX);obtain⟨kq,tF,rfl,HA,HJ3,aA,HB⟩:=hcut
  cases kq with
  | zero=>exact absurd HA.out (by simp[aAh.j0])
  | succ kj3 =>
   have H:=HA.out;clear HA;simp only[aAh.j0]at H;by_cases c20:tF=true
   ·subst c20;rw[if_pos rfl]at H;obtain rfl:=zdI H;go_wp2;go_ret;exact⟨zz7,zz0⟩
   replace c20:=zdB c20;subst c20;rw[if_neg (show ¬ (false=true) by decide)]at H;have H':=zK_ H;clear H;have f5:=aCe aA;have fZ:=aCd aA;have fY:=aA0 aA.out 0;have fX:=aA0 aA.out 1;go_wp2;(go_loopg [7,28] kj3 (λkq v7 v28 w'=>∃ (kW:Int) (eI:Int),v7 = .int .i64 kW/\v28 = .int .i64 eI/\aA2 (aAh.l0 kq a1 a2 kW aC (aC.length:Int) eI=some r)/\aA2 (kq<=kj3)/\aA2 (w'.heap[aE]? = some (.cells #[.int .i64 aD,(.slice aH aC.length aG)] 25 (0,0)))/\aA2 (Below w.heap.size w w')));case atStart=>exact⟨(0),(0),zz6,zz6,H',⟨Nat.le_refl _⟩,⟨zz1⟩,⟨zz0⟩⟩
   case round =>
    clear H';(try clear c2);(try clear p2);(try clear c6);(try clear c7);(try clear c9);(try clear c20);(try clear eW);(try clear eV);(try clear kU);(try clear kT);(try clear iG);(try clear iF);(try clear nC);(try clear nB);(try clear q3);(try clear qZ);(try clear f5);(try clear fZ);(try clear eT);(try clear eS);(try clear kS);(try clear kR);(try clear iE);(try clear iD);(try clear m6);(try clear m5);(try clear qY);(try clear qX);(try clear fY);(try clear fX);(try clear p2);obtain⟨kW,eI,rfl,rfl,HA,HK2,aA,HB⟩:=hrel
    cases gk with
    | zero=>exact absurd HA.out (by simp[aAh.l0])
    | succ k2 =>
     have H:=HA.out;clear HA;simp only[aAh.l0]at H;by_cases c22:eI<(aC.length:Int);rotate_left
     ·rw[if_neg c22]at H;have pL:=zdN c22;clear c22;obtain rfl:=zdI H;go_wp2;go_ret;exact⟨zz7,zz0⟩
     rw[if_pos c22]at H;have pL:=zdY c22;clear c22;by_cases c23:0<=eI;rotate_left
     ·rw[if_neg c23]at H;exact absurd H (by simp)
     rw[if_pos c23]at H;have yV:=zdY c23;clear c23;by_cases c24:eI<(aC.length:Int);rotate_left
     ·rw[if_neg c24]at H;exact absurd H (by simp)
     rw[if_pos c24]at H;have r5:=zdY c24;clear c24;obtain⟨sS,vW⟩:∃ j_:Int,(mn a1 a2)=j_:=⟨_,rfl⟩;(replace H:(if((aA3 aC eI).f0)=(sS) then(if((aA3 aC eI).f1)=(mx a1 a2) then(aAh.l0 k2 a1 a2 (wrap64 (kW+1)) aC (aC.length:Int) (wrap64 (eI+1))) else(aAh.l0 k2 a1 a2 kW aC (aC.length:Int) (wrap64 (eI+1)))) else(aAh.l0 k2 a1 a2 kW aC (aC.length:Int) (wrap64 (eI+1))))=some r:=by first|(rw[vW]at H;exact H)|(simp only[vW]at H ⊢;exact H));have LY:(if a2<a1 then a2 else a1)=sS:=vW;by_cases c26:((aA3 aC eI).f0)=(sS);rotate_left
     ·rw[if_neg c26]at H;have oG:(((aA3 aC eI).f0)==(sS))=false:=beq_eq_false_iff_ne.mpr c26;have rY:(((aA3 aC eI).f0) != (sS))=true:=bne_iff_ne.mpr c26;have H':=zK_ H;clear H;have aJ5:0<=(eI:Int):=zdT zz4;have aJ3:eI<(aC.length:Int):=zdT zz4;obtain⟨iM,aRj,cT,fN⟩:=aDo b3.out eI aJ5 aJ3;cases aRj;replace cT:=(HB.out.cell (World.block_lt_of_cell? w _ cT)).trans cT;replace fN:=(HB.out.cell (World.block_lt_of_cell? w _ fN)).trans fN;replace aJ5:=eq_true aJ5;replace aJ3:=eq_true aJ3;(go_wp2_with (first|((with_reducible refine aAj (N:=9) rfl ?_);(try(refine aC1 (by rfl) ?_;dsimp only));refine aAf ?hg (N:=9) ?hd (cs:=#[.int .i64 0,.int .i64 0]) (t:=46) ?hr ?_;(case hd=>rfl);(case hg=>rfl);(case hr=>exact aD9);intro lD hg w35 hbox hb;have n_:=zA7 (aA4 (g:=aE) (o:=.cells #[.int .i64 aD,.slice (some iM) aC.length aG] 25 (0,0)) zz1 hb) (aA1 zz0 hb) hbox (aFw:w.heap.size<=lD) (aFw:w.heap.size<=lD) (by rw[hg];exact Nat.ne_of_lt (aCt (g:=aE) (o:=.cells #[.int .i64 aD,.slice (some iM) aC.length aG] 25 (0,0)) zz1):aE≠lD) (by rw[hg];exact Nat.ne_of_gt (aCt (g:=aE) (o:=.cells #[.int .i64 aD,.slice (some iM) aC.length aG] 25 (0,0)) zz1):lD≠aE);clear aA HB;obtain⟨aA,HB,lF,bMj,bHj,fG,cO⟩:=n_;clear hb hbox hg;have yN:=cO.out;have yK:=fG.out;have o5:=aCe lF;have o4:=aCd lF;have oV:=aA0 lF.out 0;have oU:=aA0 lF.out 1)));go_roundg k2;(case measure=>have:=HJ3.out;have:=HK2.out;omega);case rel=>exact⟨(kW),(wrap64 (eI+1)),zz6,zz6,H',⟨aMx⟩,⟨bO8⟩,⟨bEu⟩⟩
     rw[if_pos c26]at H;have oG:(((aA3 aC eI).f0)==(sS))=true:=beq_iff_eq.mpr c26;have rY:(((aA3 aC eI).f0) != (sS))=false:=bne_eq_false_iff_eq.mpr c26;clear c26;obtain⟨sR,vV⟩:∃ j_:Int,(mx a1 a2)=j_:=⟨_,rfl⟩;(replace H:(if((aA3 aC eI).f1)=(sR) then(aAh.l0 k2 a1 a2 (wrap64 (kW+1)) aC (aC.length:Int) (wrap64 (eI+1))) else(aAh.l0 k2 a1 a2 kW aC (aC.length:Int) (wrap64 (eI+1))))=some r:=by first|(rw[vV]at H;exact H)|(simp only[vV]at H ⊢;exact H));have LX:(if a1<a2 then a2 else a1)=sR:=vV;by_cases c28:((aA3 aC eI).f1)=(sR);rotate_left
     ·rw[if_neg c28]at H;have qI:(((aA3 aC eI).f1)==(sR))=false:=beq_eq_false_iff_ne.mpr c28;have rX:(((aA3 aC eI).f1) != (sR))=true:=bne_iff_ne.mpr c28;have H':=zK_ H;clear H;have aJ5:0<=(eI:Int):=zdT zz4;have aJ3:eI<(aC.length:Int):=zdT zz4;obtain⟨iM,aRj,cT,fN⟩:=aDo b3.out eI aJ5 aJ3;cases aRj;replace cT:=(HB.out.cell (World.block_lt_of_cell? w _ cT)).trans cT;replace fN:=(HB.out.cell (World.block_lt_of_cell? w _ fN)).trans fN;replace aJ5:=eq_true aJ5;replace aJ3:=eq_true aJ3;(go_wp2_with (first|((with_reducible refine aAj (N:=9) rfl ?_);(try(refine aC1 (by rfl) ?_;dsimp only));refine aAf ?hg (N:=9) ?hd (cs:=#[.int .i64 0,.int .i64 0]) (t:=46) ?hr ?_;(case hd=>rfl);(case hg=>rfl);(case hr=>exact aD9);intro lD hg w32 hbox hb;have n_:=zA7 (aA4 (g:=aE) (o:=.cells #[.int .i64 aD,.slice (some iM) aC.length aG] 25 (0,0)) zz1 hb) (aA1 zz0 hb) hbox (aFw:w.heap.size<=lD) (aFw:w.heap.size<=lD) (by rw[hg];exact Nat.ne_of_lt (aCt (g:=aE) (o:=.cells #[.int .i64 aD,.slice (some iM) aC.length aG] 25 (0,0)) zz1):aE≠lD) (by rw[hg];exact Nat.ne_of_gt (aCt (g:=aE) (o:=.cells #[.int .i64 aD,.slice (some iM) aC.length aG] 25 (0,0)) zz1):lD≠aE);clear aA HB;obtain⟨aA,HB,lF,bMj,bHj,fG,cO⟩:=n_;clear hb hbox hg;have PU:=cO.out;have OR:=fG.out;have JD:=aCe lF;have JC:=aCd lF;have H3:=aA0 lF.out 0;have H2:=aA0 lF.out 1)));go_roundg k2;(case measure=>have:=HJ3.out;have:=HK2.out;omega);case rel=>exact⟨(kW),(wrap64 (eI+1)),zz6,zz6,H',⟨aMx⟩,⟨bO8⟩,⟨bEu⟩⟩
     rw[if_pos c28]at H;have qI:(((aA3 aC eI).f1)==(sR))=true:=beq_iff_eq.mpr c28;have rX:(((aA3 aC eI).f1) != (sR))=false:=bne_eq_false_iff_eq.mpr c28;clear c28;have H':=zK_ H;clear H;have aJ5:0<=(eI:Int):=zdT zz4;have aJ3:eI<(aC.length:Int):=zdT zz4;obtain⟨iM,aRj,cT,fN⟩:=aDo b3.out eI aJ5 aJ3;cases aRj;replace cT:=(HB.out.cell (World.block_lt_of_cell? w _ cT)).trans cT;replace fN:=(HB.out.cell (World.block_lt_of_cell? w _ fN)).trans fN;replace aJ5:=eq_true aJ5;replace aJ3:=eq_true aJ3;(go_wp2_with (first|((with_reducible refine aAj (N:=9) rfl ?_);(try(refine aC1 (by rfl) ?_;dsimp only));refine aAf ?hg (N:=9) ?hd (cs:=#[.int .i64 0,.int .i64 0]) (t:=46) ?hr ?_;(case hd=>rfl);(case hg=>rfl);(case hr=>exact aD9);intro lD hg w29 hbox hb;have n_:=zA7 (aA4 (g:=aE) (o:=.cells #[.int .i64 aD,.slice (some iM) aC.length aG] 25 (0,0)) zz1 hb) (aA1 zz0 hb) hbox (aFw:w.heap.size<=lD) (aFw:w.heap.size<=lD) (by rw[hg];exact Nat.ne_of_lt (aCt (g:=aE) (o:=.cells #[.int .i64 aD,.slice (some iM) aC.length aG] 25 (0,0)) zz1):aE≠lD) (by rw[hg];exact Nat.ne_of_gt (aCt (g:=aE) (o:=.cells #[.int .i64 aD,.slice (some iM) aC.length aG] 25 (0,0)) zz1):lD≠aE);clear aA HB;obtain⟨aA,HB,lF,bMj,bHj,fG,cO⟩:=n_;clear hb hbox hg;have BU:=cO.out;have BD:=fG.out;have o7:=aCe lF;have o6:=aCd lF;have oX:=aA0 lF.out 0;have oW:=aA0 lF.out 1)));go_roundg k2;(case measure=>have:=HJ3.out;have:=HK2.out;omega);case rel=>exact⟨(wrap64 (kW+1)),(wrap64 (eI+1)),zz6,zz6,H',⟨aMx⟩,⟨bO8⟩,⟨bEu⟩⟩
def aCm.f (a0:Int) (a1:Int) (a2:Int):Option (Bool):=if a0≥a1 then(some (decide (a0<=a2))) else(some false)
theorem aCm.calls (a0:Int) (a1:Int) (a2:Int) (r:Bool) (w:World) (h:aCm.f a0 a1 a2=some r) :
  Calls Tryz.prog 91 #[.int .i64 a0,.int .i64 a1,.int .i64 a2] w λe w'=>e = .returned (.bool r)/\aB0 w w':=by
 have H:(if a0≥a1 then(some (decide (a0<=a2))) else(some false))=some r:=h;clear h;by_cases c4:a0≥a1
 ·rw[if_pos c4]at H;have gW:decide (a1<=a0)=true:=zdY c4;clear c4;obtain rfl:=zdI H;go_enter Tryz.func91,Tryz.ntmps91;go_wp2;go_ret;exact⟨zz6,by repeat(first|exact aB0.refl _|apply aB0.step)⟩
 rw[if_neg c4]at H;have gW:decide (a1<=a0)=false:=zdN c4;clear c4;obtain rfl:=zdI H;go_enter Tryz.func91,Tryz.ntmps91;go_wp2;go_ret;exact⟨zz6,by repeat(first|exact aB0.refl _|apply aB0.step)⟩
mutual
def aBl.j0:Nat->Bool->Int->List (S46)->Option (Bool)
 | 0,_,_,_=>none
 | k+1,q5,aY,aW=>if q5=true then(some false) else(aBl.l0 k aW (aW.length:Int) 0 aY aW)
def aBl.l0:Nat->List (S46)->Int->Int->Int->List (S46)->Option (Bool)
 | 0,_,_,_,_,_=>none
 | k+1,lR,mP,mJ,aY,aW=>if mJ<mP then(if 0<=mJ then(if mJ<(lR.length:Int) then((aCm.f ((aA3 lR mJ).f0) 0 (wrap64 (aY-1))).bind λfA=>(if fA=true then((aCm.f ((aA3 lR mJ).f1) (wrap64 (((aA3 lR mJ).f0)+1)) (wrap64 (aY-1))).bind λb6=>(if b6=true then(aBl.l0 k lR mP (wrap64 (mJ+1)) aY aW) else(some false))) else(some false))) else(none)) else(none)) else(some true)
end
def aBl.f (k:Nat) (aD:Int) (aC:List (S46)):Option (Bool):=(aCm.f aD 1 6).bind λaQ=>(if aQ=true then(aBl.j0 k (decide ((aC.length:Int)>12)) aD aC) else(aBl.j0 k true aD aC))
theorem aBl.aBp:∀ k,(∀ y0 y1 y2,LeO (aBl.j0 k y0 y1 y2) (aBl.j0 (k+1) y0 y1 y2))/\(∀ y0 y1 y2 y3 y4,LeO (aBl.l0 k y0 y1 y2 y3 y4) (aBl.l0 (k+1) y0 y1 y2 y3 y4))
 | 0=>⟨λ_ _ _ r h=>by simp[aBl.j0]at h,λ_ _ _ _ _ r h=>by simp[aBl.l0]at h⟩
 | k+1=>by
  obtain⟨ih0,ih1⟩:=aBl.aBp k
  refine⟨?_,?_⟩
  ·intro y0 y1 y2
   unfold aBl.j0
   exact zm1
  ·intro y0 y1 y2 y3 y4
   unfold aBl.l0
   exact zm1
theorem aBl.mono:∀ a0 a1 k,LeO (aBl.f k a0 a1) (aBl.f (k+1) a0 a1):=by
 intro a0 a1 k;obtain⟨ih0,ih1⟩:=aBl.aBp k;unfold aBl.f;exact zm1
theorem aBl.calls (k:Nat) (aD:Int) (aH:Option Addr) (aG:Nat) (aC:List (S46)) (r:Bool) (w:World) (hr0_1:Kd.C k46 w aH aC.length aC) (hc0_1:aC.length<=aG) (h:aBl.f k aD aC=some r) :
  Calls Tryz.prog 67 #[.agg #[.int .i64 aD,.slice aH aC.length aG]] w λe w'=>e = .returned (.bool r)/\Below w.heap.size w w':=by
 have aI5:=Tryz.underlying25;have aV7:=Tryz.underlying46;have b3:=zK_ hr0_1;have bE:=zK_ hc0_1;clear hr0_1 hc0_1;have HB:=zK_ (Below.refl w.heap.size w);have H:((aCm.f aD 1 6).bind λaQ=>(if aQ=true then(aBl.j0 k (decide ((aC.length:Int)>12)) aD aC) else(aBl.j0 k true aD aC)))=some r:=h;clear h;have HC2:=zK_ H;clear H;go_enter Tryz.func67,Tryz.ntmps67;(go_upto_region 1 with (first|((with_reducible refine aAj (N:=1) rfl ?_);(try(refine aC1 (by rfl) ?_;dsimp only));refine aAf ?hg (N:=1) ?hd (cs:=#[.int .i64 aD,.slice aH aC.length aG]) (t:=25) ?hr ?_;(case hd=>rfl);(case hg=>rfl);(case hr=>exact aD9);intro aE hg w3 hbox hb;have n_:=zA4 (aA1 zz2 hb) hbox (aDl:w.heap.size<=aE) (aDl:w.heap.size<=aE);clear HB;obtain⟨HB,aA,aDd,aD2⟩:=n_;clear hb hbox hg)));(try simp only[Act.put,List.setIfInBounds_toArray,List.set_cons_zero,List.set_cons_succ]);go_cut [14] (λv14 wc=>∃ (kq:Nat) (dO:Bool),v14 = .bool dO/\aA2 (aBl.j0 kq dO aD aC=some r)/\aA2 (kq<=k)/\aA2 (wc.heap[aE]? = some (.cells #[.int .i64 aD,(.slice aH aC.length aG)] 25 (0,0)))/\aA2 (Below w.heap.size w wc))
 case first =>
  have H:=HC2.out;clear HC2;obtain⟨aQ,A40,H⟩:=zO_ H;(try dsimp only at H);have A4:=zK_ A40;clear A40;by_cases c5:aQ=true
  ·subst c5;rw[if_pos rfl]at H;have H':=zK_ H;clear H;have j9:=aCe aA;have j8:=aCd aA;have j5:=aA0 aA.out 0;have j4:=aA0 aA.out 1;(go_wp2_with (first|((with_reducible refine aA5 (f:=91) rfl ?_);refine aB8 (some 7) rfl rfl Tryz.func91 (by kernel_rfl) rfl #[.int .i64 aD,.int .i64 1,.int .i64 6] rfl zz3 ?_;(with_reducible refine(aCm.calls aD 1 6 true _ A4.out).mono ?_);rintro e w' ⟨rfl,⟨nd,rfl⟩⟩;refine⟨_,rfl,?_⟩)));(go_meet);case rel=>exact⟨_,(decide ((aC.length:Int)>12)),zz6,H',⟨by first|omega|exact Nat.le_refl _⟩,⟨zz1⟩,⟨zz0⟩⟩
  replace c5:=zdB c5;subst c5;rw[if_neg (show ¬ (false=true) by decide)]at H;have H':=zK_ H;clear H;have gO:=aCe aA;have gN:=aCd aA;have gM:=aA0 aA.out 0;have gK:=aA0 aA.out 1;(go_wp2_with (first|((with_reducible refine aA5 (f:=91) rfl ?_);refine aB8 (some 7) rfl rfl Tryz.func91 (by kernel_rfl) rfl #[.int .i64 aD,.int .i64 1,.int .i64 6] rfl zz3 ?_;(with_reducible refine(aCm.calls aD 1 6 false _ A4.out).mono ?_);rintro e w' ⟨rfl,⟨nd,rfl⟩⟩;refine⟨_,rfl,?_⟩)));(go_meet);case rel=>exact⟨_,(true),zz6,H',⟨by first|omega|exact Nat.le_refl _⟩,⟨zz1⟩,⟨zz0⟩⟩
 case rest =>
  clear HC2;(try clear p2);(try clear c5);(try clear c6);(try clear j9);(try clear j8);(try clear gO);(try clear gN);(try clear j5);(try clear j4);(try clear gM);(try clear gK);obtain⟨kq,dO,rfl,HA,HJ1,aA,HB⟩:=hcut
  cases kq with
  | zero=>exact absurd HA.out (by simp[aBl.j0])
  | succ kj1 =>
   have H:=HA.out;clear HA;simp only[aBl.j0]at H;by_cases c8:dO=true
   ·subst c8;rw[if_pos rfl]at H;obtain rfl:=zdI H;go_wp2;go_ret;exact⟨zz7,zz0⟩
   replace c8:=zdB c8;subst c8;rw[if_neg (show ¬ (false=true) by decide)]at H;have H':=zK_ H;clear H;have g6:=aCe aA;have g5:=aCd aA;have g4:=aA0 aA.out 0;have g3:=aA0 aA.out 1;go_wp2;(go_loopg [18] kj1 (λkq v18 w'=>∃ (cR:Int),v18 = .int .i64 cR/\aA2 (aBl.l0 kq aC (aC.length:Int) cR aD aC=some r)/\aA2 (kq<=kj1)/\aA2 (w'.heap[aE]? = some (.cells #[.int .i64 aD,(.slice aH aC.length aG)] 25 (0,0)))/\aA2 (Below w.heap.size w w')));case atStart=>exact⟨(0),zz6,H',⟨Nat.le_refl _⟩,⟨zz1⟩,⟨zz0⟩⟩
   case round =>
    clear H';(try clear p2);(try clear c5);(try clear c6);(try clear c8);(try clear c9);(try clear j9);(try clear j8);(try clear gO);(try clear gN);(try clear g6);(try clear g5);(try clear j5);(try clear j4);(try clear gM);(try clear gK);(try clear g4);(try clear g3);(try clear p2);obtain⟨cR,rfl,HA,HK2,aA,HB⟩:=hrel
    cases gk with
    | zero=>exact absurd HA.out (by simp[aBl.l0])
    | succ k2 =>
     have H:=HA.out;clear HA;simp only[aBl.l0]at H;by_cases c10:cR<(aC.length:Int);rotate_left
     ·rw[if_neg c10]at H;have fV:=zdN c10;clear c10;obtain rfl:=zdI H;go_wp2;go_ret;exact⟨zz7,zz0⟩
     rw[if_pos c10]at H;have fV:=zdY c10;clear c10;by_cases c11:0<=cR;rotate_left
     ·rw[if_neg c11]at H;exact absurd H (by simp)
     rw[if_pos c11]at H;have nJ:=zdY c11;clear c11;by_cases c12:cR<(aC.length:Int);rotate_left
     ·rw[if_neg c12]at H;exact absurd H (by simp)
     rw[if_pos c12]at H;have nI:=zdY c12;clear c12;obtain⟨fA,bSo,H⟩:=zO_ H;(try dsimp only at H);have A13:=zK_ bSo;clear bSo;by_cases c14:fA=true;rotate_left
     ·replace c14:=zdB c14;subst c14;rw[if_neg (show ¬ (false=true) by decide)]at H;obtain rfl:=zdI H;have aEv:0<=(cR:Int):=zdT zz4;have aEu:cR<(aC.length:Int):=zdT zz4;obtain⟨bX,aH7,aZ,bR⟩:=aDo b3.out cR aEv aEu;cases aH7;replace aZ:=(HB.out.cell (World.block_lt_of_cell? w _ aZ)).trans aZ;replace bR:=(HB.out.cell (World.block_lt_of_cell? w _ bR)).trans bR;replace aEv:=eq_true aEv;replace aEu:=eq_true aEu;(go_wp2_with (first|((with_reducible refine aAj (N:=4) rfl ?_);(try(refine aC1 (by rfl) ?_;dsimp only));refine aAf ?hg (N:=4) ?hd (cs:=#[.int .i64 0,.int .i64 0]) (t:=46) ?hr ?_;(case hd=>rfl);(case hg=>rfl);(case hr=>exact aD9);intro bB hg w25 hbox hb;have n_:=zA7 (aA4 (g:=aE) (o:=.cells #[.int .i64 aD,.slice (some bX) aC.length aG] 25 (0,0)) zz1 hb) (aA1 zz0 hb) hbox (aFw:w.heap.size<=bB) (aFw:w.heap.size<=bB) (aS7:aE≠bB) (aS6:bB≠aE);clear aA HB;obtain⟨aA,HB,bH,aL5,aKb,b7,b9⟩:=n_;clear hb hbox hg;have BY:=b9.out;have BH:=b7.out;have o9:=aCe bH;have o8:=aCd bH;have oZ:=aA0 bH.out 0;have oY:=aA0 bH.out 1;have uK:=aCe aA;have uJ:=aCd aA;have t7:=aA0 aA.out 0;have t6:=aA0 aA.out 1)|((with_reducible refine aA5 (f:=91) rfl ?_);refine aB8 (some 27) rfl rfl Tryz.func91 (by kernel_rfl) rfl #[.int .i64 ((aA3 aC cR).f0),.int .i64 0,.int .i64 (wrap64 (aD-1))] rfl zz3 ?_;(with_reducible refine(aCm.calls ((aA3 aC cR).f0) 0 (wrap64 (aD-1)) false _ A13.out).mono ?_);rintro e w' ⟨rfl,⟨nd,rfl⟩⟩;refine⟨_,rfl,?_⟩)));go_ret;exact⟨zz7,aO6⟩
     subst c14;rw[if_pos rfl]at H;obtain⟨b6,bEm,H⟩:=zO_ H;(try dsimp only at H);have A15:=zK_ bEm;clear bEm;by_cases c16:b6=true;rotate_left
     ·replace c16:=zdB c16;subst c16;rw[if_neg (show ¬ (false=true) by decide)]at H;obtain rfl:=zdI H;have aEv:0<=(cR:Int):=zdT zz4;have aEu:cR<(aC.length:Int):=zdT zz4;obtain⟨bX,aH7,aZ,bR⟩:=aDo b3.out cR aEv aEu;cases aH7;replace aZ:=(HB.out.cell (World.block_lt_of_cell? w _ aZ)).trans aZ;replace bR:=(HB.out.cell (World.block_lt_of_cell? w _ bR)).trans bR;replace aEv:=eq_true aEv;replace aEu:=eq_true aEu;(go_wp2_with (first|((with_reducible refine aAj (N:=4) rfl ?_);(try(refine aC1 (by rfl) ?_;dsimp only));refine aAf ?hg (N:=4) ?hd (cs:=#[.int .i64 0,.int .i64 0]) (t:=46) ?hr ?_;(case hd=>rfl);(case hg=>rfl);(case hr=>exact aD9);intro bB hg w21 hbox hb;have n_:=zA7 (aA4 (g:=aE) (o:=.cells #[.int .i64 aD,.slice (some bX) aC.length aG] 25 (0,0)) zz1 hb) (aA1 zz0 hb) hbox (aFw:w.heap.size<=bB) (aFw:w.heap.size<=bB) (aS7:aE≠bB) (aS6:bB≠aE);clear aA HB;obtain⟨aA,HB,bH,aL5,aKb,b7,b9⟩:=n_;clear hb hbox hg;have vP:=b9.out;have vO:=b7.out;have mE:=aCe bH;have mD:=aCd bH;have l8:=aA0 bH.out 0;have l7:=aA0 bH.out 1;have mC:=aCe aA;have mB:=aCd aA;have l6:=aA0 aA.out 0;have l5:=aA0 aA.out 1)|((with_reducible refine aA5 (f:=91) rfl ?_);refine aB8 (some 27) rfl rfl Tryz.func91 (by kernel_rfl) rfl #[.int .i64 ((aA3 aC cR).f0),.int .i64 0,.int .i64 (wrap64 (aD-1))] rfl zz3 ?_;(with_reducible refine(aCm.calls ((aA3 aC cR).f0) 0 (wrap64 (aD-1)) true _ A13.out).mono ?_);rintro e w' ⟨rfl,⟨nd,rfl⟩⟩;refine⟨_,rfl,?_⟩)|(go_at_call 91;(with_reducible refine(aCm.calls ((aA3 aC cR).f1) (wrap64 (((aA3 aC cR).f0)+1)) (wrap64 (aD-1)) false _ A15.out).mono ?_);rintro e w' ⟨rfl,⟨nd,rfl⟩⟩)));go_ret;exact⟨zz7,aO6⟩
     subst c16;rw[if_pos rfl]at H;have H':=zK_ H;clear H;have aEv:0<=(cR:Int):=zdT zz4;have aEu:cR<(aC.length:Int):=zdT zz4;obtain⟨bX,aH7,aZ,bR⟩:=aDo b3.out cR aEv aEu;cases aH7;replace aZ:=(HB.out.cell (World.block_lt_of_cell? w _ aZ)).trans aZ;replace bR:=(HB.out.cell (World.block_lt_of_cell? w _ bR)).trans bR;replace aEv:=eq_true aEv;replace aEu:=eq_true aEu;(go_wp2_with (first|((with_reducible refine aAj (N:=4) rfl ?_);(try(refine aC1 (by rfl) ?_;dsimp only));refine aAf ?hg (N:=4) ?hd (cs:=#[.int .i64 0,.int .i64 0]) (t:=46) ?hr ?_;(case hd=>rfl);(case hg=>rfl);(case hr=>exact aD9);intro bB hg w17 hbox hb;have n_:=zA7 (aA4 (g:=aE) (o:=.cells #[.int .i64 aD,.slice (some bX) aC.length aG] 25 (0,0)) zz1 hb) (aA1 zz0 hb) hbox (aFw:w.heap.size<=bB) (aFw:w.heap.size<=bB) (aS7:aE≠bB) (aS6:bB≠aE);clear aA HB;obtain⟨aA,HB,bH,aL5,aKb,b7,b9⟩:=n_;clear hb hbox hg;have rG:=b9.out;have rE:=b7.out;have i8:=aCe bH;have i7:=aCd bH;have iX:=aA0 bH.out 0;have iW:=aA0 bH.out 1;have pC:=aCe aA;have pA:=aCd aA;have o1:=aA0 aA.out 0;have o0:=aA0 aA.out 1)|((with_reducible refine aA5 (f:=91) rfl ?_);refine aB8 (some 27) rfl rfl Tryz.func91 (by kernel_rfl) rfl #[.int .i64 ((aA3 aC cR).f0),.int .i64 0,.int .i64 (wrap64 (aD-1))] rfl zz3 ?_;(with_reducible refine(aCm.calls ((aA3 aC cR).f0) 0 (wrap64 (aD-1)) true _ A13.out).mono ?_);rintro e w' ⟨rfl,⟨nd,rfl⟩⟩;refine⟨_,rfl,?_⟩)|(go_at_call 91;(with_reducible refine(aCm.calls ((aA3 aC cR).f1) (wrap64 (((aA3 aC cR).f0)+1)) (wrap64 (aD-1)) true _ A15.out).mono ?_);rintro e w' ⟨rfl,⟨nd,rfl⟩⟩)));go_roundg k2;(case measure=>have:=HJ1.out;have:=HK2.out;omega);case rel=>exact⟨(wrap64 (cR+1)),zz6,H',⟨by have:=HJ1.out;have:=HK2.out;omega⟩,⟨bAy⟩,⟨aO6⟩⟩
def aBo.l0:Nat->Int->List Int->Int->Int->Option (Bool)
 | 0,_,_,_,_=>none
 | k+1,x1,x7,x8,x9=>if x9<x8 then(if 0<=x9 then(if x9<(x7.length:Int) then(if(rd x7 x9)=x1 then(some true) else(aBo.l0 k x1 x7 x8 (wrap64 (x9+1)))) else(none)) else(none)) else(some false)
def aBo.f (k:Nat) (l0:List Int) (a1:Int):Option (Bool):=aBo.l0 k a1 l0 (l0.length:Int) 0
theorem aBo.aBp:∀ k,(∀ y0 y1 y2 y3,LeO (aBo.l0 k y0 y1 y2 y3) (aBo.l0 (k+1) y0 y1 y2 y3))
 | 0=>λ_ _ _ _ r h=>by simp[aBo.l0]at h
 | k+1=>by
  have ih0:=aBo.aBp k
  ·intro y0 y1 y2 y3
   unfold aBo.l0
   exact zm0
theorem aBo.mono:∀ a0 a1 k,LeO (aBo.f k a0 a1) (aBo.f (k+1) a0 a1):=by
 intro a0 a1 k;have ih0:=aBo.aBp k;unfold aBo.f;exact zm0
theorem aBo.calls (k:Nat) (A0:Option Addr) (c0:Nat) (l0:List Int) (a1:Int) (r:Bool) (w:World) (hr0:Kd.C (Kd.int .i64) w A0 l0.length l0) (hc0:l0.length<=c0) (h:aBo.f k l0 a1=some r) :
  Calls Tryz.prog 92 #[.slice A0 l0.length c0,.int .i64 a1] w λe w'=>e = .returned (.bool r)/\aB0 w w':=by
 have HR0:=zK_ hr0;have HC0:=zK_ hc0;clear hr0 hc0;have H:(aBo.l0 k a1 l0 (l0.length:Int) 0)=some r:=h;clear h;have H':=zK_ H;clear H;go_enter Tryz.func92,Tryz.ntmps92;go_wp2;(go_loopg [9] k (λkq v9 w'=>∃ (bV:Int),v9 = .int .i64 bV/\aA2 (aBo.l0 kq a1 l0 (l0.length:Int) bV=some r)/\aA2 (kq<=k)/\aB0 w w'));case atStart=>exact⟨(0),zz6,H',⟨Nat.le_refl _⟩,by repeat(first|exact aB0.refl _|apply aB0.step)⟩
 case round =>
  clear H';(try clear p2);obtain⟨bV,rfl,HA,HK1,⟨m1,rfl⟩⟩:=hrel
  cases gk with
  | zero=>exact absurd HA.out (by simp[aBo.l0])
  | succ k1 =>
   have H:=HA.out;clear HA;simp only[aBo.l0]at H;by_cases c3:bV<(l0.length:Int);rotate_left
   ·rw[if_neg c3]at H;have gX:=zdN c3;clear c3;obtain rfl:=zdI H;go_wp2;go_ret;exact⟨zz6,by repeat(first|exact aB0.refl _|apply aB0.step)⟩
   rw[if_pos c3]at H;have gX:=zdY c3;clear c3;by_cases c4:0<=bV;rotate_left
   ·rw[if_neg c4]at H;exact absurd H (by simp)
   rw[if_pos c4]at H;have gW:=zdY c4;clear c4;by_cases c5:bV<(l0.length:Int);rotate_left
   ·rw[if_neg c5]at H;exact absurd H (by simp)
   rw[if_pos c5]at H;have fD:=zdY c5;clear c5;by_cases c6:(rd l0 bV)=a1
   ·rw[if_pos c6]at H;have iO:((rd l0 bV)==a1)=true:=beq_iff_eq.mpr c6;have nP:((rd l0 bV) != a1)=false:=bne_eq_false_iff_eq.mpr c6;clear c6;obtain rfl:=zdI H;have aDu:0<=(bV:Int):=zdT zz4;have aDt:bV<(l0.length:Int):=zdT zz4;obtain⟨d7,aFt,bM⟩:=Kd.aCl HR0.out bV aDu aDt;cases aFt;replace aDu:=eq_true aDu;replace aDt:=eq_true aDt;go_wp2;go_ret;exact⟨zz6,by repeat(first|exact aB0.refl _|apply aB0.step)⟩
   rw[if_neg c6]at H;have iO:((rd l0 bV)==a1)=false:=beq_eq_false_iff_ne.mpr c6;have nP:((rd l0 bV) != a1)=true:=bne_iff_ne.mpr c6;have H':=zK_ H;clear H;have aDu:0<=(bV:Int):=zdT zz4;have aDt:bV<(l0.length:Int):=zdT zz4;obtain⟨d7,aFt,bM⟩:=Kd.aCl HR0.out bV aDu aDt;cases aFt;replace aDu:=eq_true aDu;replace aDt:=eq_true aDt;go_wp2;go_roundg k1;(case measure=>have:=HK1.out;omega);case rel=>exact⟨(wrap64 (bV+1)),zz6,H',⟨aHl⟩,by repeat(first|exact aB0.refl _|apply aB0.step)⟩
mutual
def aAm.l0:Nat->List Int->Int->Int->List (S46)->Option (List Int)
 | 0,_,_,_,_=>none
 | k+1,x3,x4,aY,aW=>if x4<(x3.length:Int) then(aAm.l1 k x3 x4 aW (aW.length:Int) 0 aY aW) else(some x3)
def aAm.l1:Nat->List Int->Int->List (S46)->Int->Int->Int->List (S46)->Option (List Int)
 | 0,_,_,_,_,_,_,_=>none
 | k+1,x3,x4,nO,lR,mP,aY,aW=>if mP<lR then(if 0<=mP then(if mP<(nO.length:Int) then(if 0<=x4 then(if x4<(x3.length:Int) then(if((aA3 nO mP).f0)=(rd x3 x4) then((aBo.f k x3 ((aA3 nO mP).f1)).bind λeO=>(aAm.j2 k x3 x4 nO lR mP (!eO) aY aW ((aA3 nO mP).f0) ((aA3 nO mP).f1))) else(aAm.j2 k x3 x4 nO lR mP false aY aW ((aA3 nO mP).f0) ((aA3 nO mP).f1))) else(none)) else(none)) else(none)) else(none)) else(aAm.l0 k x3 (wrap64 (x4+1)) aY aW)
def aAm.j2:Nat->List Int->Int->List (S46)->Int->Int->Bool->Int->List (S46)->Int->Int->Option (List Int)
 | 0,_,_,_,_,_,_,_,_,_,_=>none
 | k+1,x3,x4,nO,lR,mP,AS,aY,aW,gI,iB=>if AS=true then(if x3.length<17592186044416 then((some (x3++[iB]:List Int)).bind λcX=>(if 0<=x4 then(if x4<(cX.length:Int) then(if iB=(rd cX x4) then((aBo.f k cX gI).bind λlT=>(if lT=true then(aAm.l1 k cX x4 nO lR (wrap64 (mP+1)) aY aW) else(if cX.length<17592186044416 then(aAm.l1 k (cX++[gI]) x4 nO lR (wrap64 (mP+1)) aY aW) else(none)))) else(aAm.l1 k cX x4 nO lR (wrap64 (mP+1)) aY aW)) else(none)) else(none))) else(none)) else(if 0<=x4 then(if x4<(x3.length:Int) then(if iB=(rd x3 x4) then((aBo.f k x3 gI).bind λjK=>(if jK=true then(aAm.l1 k x3 x4 nO lR (wrap64 (mP+1)) aY aW) else(if x3.length<17592186044416 then(aAm.l1 k (x3++[gI]) x4 nO lR (wrap64 (mP+1)) aY aW) else(none)))) else(aAm.l1 k x3 x4 nO lR (wrap64 (mP+1)) aY aW)) else(none)) else(none))
end
def aAm.f (k:Nat) (aD:Int) (aC:List (S46)):Option (List Int):=aAm.l0 k (([0]:List Int)) 0 aD aC
theorem aAm.aBp:∀ k,(∀ y0 y1 y2 y3,LeO (aAm.l0 k y0 y1 y2 y3) (aAm.l0 (k+1) y0 y1 y2 y3))/\(∀ y0 y1 y2 y3 y4 y5 y6,LeO (aAm.l1 k y0 y1 y2 y3 y4 y5 y6) (aAm.l1 (k+1) y0 y1 y2 y3 y4 y5 y6))/\(∀ y0 y1 y2 y3 y4 y5 y6 y7 y8 y9,LeO (aAm.j2 k y0 y1 y2 y3 y4 y5 y6 y7 y8 y9) (aAm.j2 (k+1) y0 y1 y2 y3 y4 y5 y6 y7 y8 y9))
 | 0=>⟨λ_ _ _ _ r h=>by simp[aAm.l0]at h,λ_ _ _ _ _ _ _ r h=>by simp[aAm.l1]at h,λ_ _ _ _ _ _ _ _ _ _ r h=>by simp[aAm.j2]at h⟩
 | k+1=>by
  obtain⟨ih0,ih1,ih2⟩:=aAm.aBp k
  refine⟨?_,?_,?_⟩
  ·intro y0 y1 y2 y3
   unfold aAm.l0
   exact zm5
  ·intro y0 y1 y2 y3 y4 y5 y6
   unfold aAm.l1
   exact zm5
  ·intro y0 y1 y2 y3 y4 y5 y6 y7 y8 y9
   unfold aAm.j2
   exact zm5
theorem aAm.mono:∀ a0 a1 k,LeO (aAm.f k a0 a1) (aAm.f (k+1) a0 a1):=by
 intro a0 a1 k;obtain⟨ih0,ih1,ih2⟩:=aAm.aBp k;unfold aAm.f;exact zm5
theorem aAm.calls (k:Nat) (aD:Int) (aH:Option Addr) (aG:Nat) (aC:List (S46)) (r:List Int) (w:World) (hr0_1:Kd.C k46 w aH aC.length aC) (hc0_1:aC.length<=aG) (h:aAm.f k aD aC=some r) :
  Calls Tryz.prog 68 #[.agg #[.int .i64 aD,.slice aH aC.length aG]] w λe w'=>∃ v0_:Value,e = .returned (v0_)/\Kd.R (Kd.int .i64) 3 w' w.heap.size (λ_=>True) v0_ r/\Below w.heap.size w w':=by
 have aI5:=Tryz.underlying25;have aV7:=Tryz.underlying46;have b3:=zK_ hr0_1;have bE:=zK_ hc0_1;clear hr0_1 hc0_1;have HB:=zK_ (Below.refl w.heap.size w);have H:(aAm.l0 k (([0]:List Int)) 0 aD aC)=some r:=h;clear h;obtain⟨vF,hy_⟩:∃ y_:List Int,y_=(([0]:List Int)):=⟨_,rfl⟩;(replace H:(aAm.l0 k vF 0 aD aC)=some r:=zzY);have oA:=zK_ hy_;clear hy_;have H':=zK_ H;clear H;go_enter Tryz.func68,Tryz.ntmps68;(go_wp2_with (first|((with_reducible refine aAj (N:=1) rfl ?_);refine aAf ?hg (N:=1) ?hd (cs:=#[.int .i64 aD,.slice aH aC.length aG]) (t:=25) ?hr ?_;(case hd=>rfl);(case hg=>rfl);(case hr=>exact aD9);intro aE hg w2 hbox hb;have n_:=zA4 (aA1 zz2 hb) hbox (aDl:w.heap.size<=aE) (aDl:w.heap.size<=aE);clear HB;obtain⟨HB,aA,aDd,aD2⟩:=n_;clear hb hbox hg)|((with_reducible refine aAj (N:=7) rfl ?_);refine Kd.aL2 (Kd.int .i64) _ 3 ?hg (N:=7) ?hd (xs:=([0]:List Int)) (inner:=[.int .i64 0]) (ok:=λ_=>True) (okp:=λ_=>True) ?hr ?hp (λ_ hk=>hk) trivial (Below.refl _ _) (Nat.le_refl _) (by simp) ?_;(case hd=>rfl);(case hg=>rfl);(case hr=>exact aD9);(case hp=>exact(aEs.one (show Kd.M (Kd.int .i64) _ _ _ 0 [.int .i64 0] from rfl) (aEs.none _ _)));intro aXr w3 ho4 hb hg_ aF7;clear hg_ aF7;(first|rw[<-oA.out]at ho4|(simp only[Int.reduceToNat]at ho4;rw[<-oA.out]at ho4));have n_:=zA3 (Kd.aCn ho4 (aAa zz0)) (aA4 (g:=aE) (o:=.cells #[.int .i64 aD,.slice aH aC.length aG] 25 (0,0)) zz1 hb) (aA1 zz0 hb);clear aA HB;obtain⟨dD,aA,HB⟩:=n_;clear hb ho4)));(repeat(go_quiet (first|((with_reducible refine aAj (N:=1) rfl ?_);refine aAf ?hg (N:=1) ?hd (cs:=#[.int .i64 aD,.slice aH aC.length aG]) (t:=25) ?hr ?_;(case hd=>rfl);(case hg=>rfl);(case hr=>exact aD9);intro aE hg w2 hbox hb;have n_:=zA4 (aA1 zz2 hb) hbox (aDl:w.heap.size<=aE) (aDl:w.heap.size<=aE);clear HB;obtain⟨HB,aA,aDd,aD2⟩:=n_;clear hb hbox hg)|((with_reducible refine aAj (N:=7) rfl ?_);refine Kd.aL2 (Kd.int .i64) _ 3 ?hg (N:=7) ?hd (xs:=([0]:List Int)) (inner:=[.int .i64 0]) (ok:=λ_=>True) (okp:=λ_=>True) ?hr ?hp (λ_ hk=>hk) trivial (Below.refl _ _) (Nat.le_refl _) (by simp) ?_;(case hd=>rfl);(case hg=>rfl);(case hr=>exact aD9);(case hp=>exact(aEs.one (show Kd.M (Kd.int .i64) _ _ _ 0 [.int .i64 0] from rfl) (aEs.none _ _)));intro aXr w3 ho4 hb hg_ aF7;clear hg_ aF7;(first|rw[<-oA.out]at ho4|(simp only[Int.reduceToNat]at ho4;rw[<-oA.out]at ho4));have n_:=zA3 (Kd.aCn ho4 (aAa zz0)) (aA4 (g:=aE) (o:=.cells #[.int .i64 aD,.slice aH aC.length aG] 25 (0,0)) zz1 hb) (aA1 zz0 hb);clear aA HB;obtain⟨dD,aA,HB⟩:=n_;clear hb ho4));try go_wp2_with (first|((with_reducible refine aAj (N:=1) rfl ?_);refine aAf ?hg (N:=1) ?hd (cs:=#[.int .i64 aD,.slice aH aC.length aG]) (t:=25) ?hr ?_;(case hd=>rfl);(case hg=>rfl);(case hr=>exact aD9);intro aE hg w2 hbox hb;have n_:=zA4 (aA1 zz2 hb) hbox (aDl:w.heap.size<=aE) (aDl:w.heap.size<=aE);clear HB;obtain⟨HB,aA,aDd,aD2⟩:=n_;clear hb hbox hg)|((with_reducible refine aAj (N:=7) rfl ?_);refine Kd.aL2 (Kd.int .i64) _ 3 ?hg (N:=7) ?hd (xs:=([0]:List Int)) (inner:=[.int .i64 0]) (ok:=λ_=>True) (okp:=λ_=>True) ?hr ?hp (λ_ hk=>hk) trivial (Below.refl _ _) (Nat.le_refl _) (by simp) ?_;(case hd=>rfl);(case hg=>rfl);(case hr=>exact aD9);(case hp=>exact(aEs.one (show Kd.M (Kd.int .i64) _ _ _ 0 [.int .i64 0] from rfl) (aEs.none _ _)));intro aXr w3 ho4 hb hg_ aF7;clear hg_ aF7;(first|rw[<-oA.out]at ho4|(simp only[Int.reduceToNat]at ho4;rw[<-oA.out]at ho4));have n_:=zA3 (Kd.aCn ho4 (aAa zz0)) (aA4 (g:=aE) (o:=.cells #[.int .i64 aD,.slice aH aC.length aG] 25 (0,0)) zz1 hb) (aA1 zz0 hb);clear aA HB;obtain⟨dD,aA,HB⟩:=n_;clear hb ho4))));(go_loopg [3,4] k (λkq v3 v4 w'=>∃ (dH:List Int) (bJ:Int),v4 = .int .i64 bJ/\aA2 (aAm.l0 kq dH bJ aD aC=some r)/\aA2 (kq<=k)/\aA2 (Kd.R (Kd.int .i64) 3 w' w.heap.size (λ_=>True) v3 dH)/\aA2 (w'.heap[aE]? = some (.cells #[.int .i64 aD,(.slice aH aC.length aG)] 25 (0,0)))/\aA2 (Below w.heap.size w w')));case atStart=>exact⟨(vF),(0),zz6,H',⟨Nat.le_refl _⟩,⟨aOs⟩,⟨zz1⟩,⟨zz0⟩⟩
 case round =>
  clear H';(try clear p2);obtain⟨dH,bJ,rfl,HA,HK1,bY,aA,HB⟩:=hrel
  cases gk with
  | zero=>exact absurd HA.out (by simp[aAm.l0])
  | succ k1 =>
   have H:=HA.out;clear HA;simp only[aAm.l0]at H;by_cases c5:bJ<(dH.length:Int);rotate_left
   ·rw[if_neg c5]at H;have fD:=zdN c5;clear c5;obtain rfl:=zdI H;obtain⟨bIa,bI5,yC⟩:=Kd.aBr bY.out;subst yC;go_wp2;(repeat(go_quiet (fail);try go_wp2));go_ret;exact⟨_,zz7,aLu,zz0⟩
   rw[if_pos c5]at H;have fD:=zdY c5;clear c5;have H':=zK_ H;clear H;obtain⟨Ao6,co6,Q0⟩:=Kd.aBr bY.out;subst Q0;have gO:=aCe aA;have gN:=aCd aA;have gM:=aA0 aA.out 0;have gK:=aA0 aA.out 1;go_wp2;(repeat(go_quiet (fail);try go_wp2));(go_loopg [3,17] k1 (λkq v3 v17 w'=>∃ (eB:List Int) (a8:Int),v17 = .int .i64 a8/\aA2 (aAm.l1 kq eB bJ aC (aC.length:Int) a8 aD aC=some r)/\aA2 (kq<=k1)/\aA2 (Kd.R (Kd.int .i64) 3 w' w.heap.size (λ_=>True) v3 eB)/\aA2 (w'.heap[aE]? = some (.cells #[.int .i64 aD,(.slice aH aC.length aG)] 25 (0,0)))/\aA2 (Below w.heap.size w w')));case atStart=>exact⟨(dH),(0),zz6,H',⟨Nat.le_refl _⟩,⟨aLu⟩,⟨zz1⟩,⟨zz0⟩⟩
   case round =>
    clear H';(try clear p2);(try clear c5);(try clear fD);(try clear c6);(try clear gO);(try clear gN);(try clear gM);(try clear gK);(try clear p2);obtain⟨eB,a8,rfl,HA,HK2,bY,aA,HB⟩:=hrel
    cases gk with
    | zero=>exact absurd HA.out (by simp[aAm.l1])
    | succ k2 =>
     have H:=HA.out;clear HA;simp only[aAm.l1]at H;by_cases c8:a8<(aC.length:Int);rotate_left
     ·rw[if_neg c8]at H;have gV:=zdN c8;clear c8;have H':=zK_ H;clear H;go_wp2;(repeat(go_quiet (fail);try go_wp2));go_roundg k2;(case measure=>have:=HK1.out;have:=HK2.out;omega);case rel=>exact⟨(eB),(wrap64 (bJ+1)),zz6,H',⟨aM9⟩,⟨aLu⟩,⟨zz1⟩,⟨zz0⟩⟩
     rw[if_pos c8]at H;have gV:=zdY c8;clear c8;by_cases c9:0<=a8;rotate_left
     ·rw[if_neg c9]at H;exact absurd H (by simp)
     rw[if_pos c9]at H;have iN:=zdY c9;clear c9;by_cases c10:a8<(aC.length:Int);rotate_left
     ·rw[if_neg c10]at H;exact absurd H (by simp)
     rw[if_pos c10]at H;have fV:=zdY c10;clear c10;have bPz:=zK_ H;clear H;have aL8:0<=(a8:Int):=zdT zz4;have aL7:a8<(aC.length:Int):=zdT zz4;obtain⟨eJ,aWp,cD,dL⟩:=aDo b3.out a8 aL8 aL7;cases aWp;replace cD:=(HB.out.cell (World.block_lt_of_cell? w _ cD)).trans cD;replace dL:=(HB.out.cell (World.block_lt_of_cell? w _ dL)).trans dL;replace aL8:=eq_true aL8;replace aL7:=eq_true aL7;(go_upto_region 8 with (first|((with_reducible refine aAj (N:=6) rfl ?_);refine aAf ?hg (N:=6) ?hd (cs:=#[.int .i64 0,.int .i64 0]) (t:=46) ?hr ?_;(case hd=>rfl);(case hg=>rfl);(case hr=>exact aD9);intro bN hg w12 hbox hb;have n_:=zA8 (Kd.aBn aLu hb) (aA4 (g:=aE) (o:=.cells #[.int .i64 aD,.slice (some eJ) aC.length aG] 25 (0,0)) zz1 hb) (aA1 zz0 hb) hbox (aFw:w.heap.size<=bN) (aFw:w.heap.size<=bN) (by rw[hg];exact Nat.ne_of_lt (aCt (g:=aE) (o:=.cells #[.int .i64 aD,.slice (some eJ) aC.length aG] 25 (0,0)) zz1):aE≠bN) (by rw[hg];exact Nat.ne_of_gt (aCt (g:=aE) (o:=.cells #[.int .i64 aD,.slice (some eJ) aC.length aG] 25 (0,0)) zz1):bN≠aE);clear bY aA HB;obtain⟨bY,aA,HB,aN,bHi,aTs,dB,dK⟩:=n_;clear hb hbox hg;have rH:=dK.out;have rF:=dB.out;have iG:=aCe aN;have iF:=aCd aN;have iE:=aA0 aN.out 0;have iD:=aA0 aN.out 1)));(repeat(go_quiet (first|((with_reducible refine aAj (N:=6) rfl ?_);refine aAf ?hg (N:=6) ?hd (cs:=#[.int .i64 0,.int .i64 0]) (t:=46) ?hr ?_;(case hd=>rfl);(case hg=>rfl);(case hr=>exact aD9);intro bN hg w12 hbox hb;have n_:=zA8 (Kd.aBn aLu hb) (aA4 (g:=aE) (o:=.cells #[.int .i64 aD,.slice (some eJ) aC.length aG] 25 (0,0)) zz1 hb) (aA1 zz0 hb) hbox (aFw:w.heap.size<=bN) (aFw:w.heap.size<=bN) (by rw[hg];exact Nat.ne_of_lt (aCt (g:=aE) (o:=.cells #[.int .i64 aD,.slice (some eJ) aC.length aG] 25 (0,0)) zz1):aE≠bN) (by rw[hg];exact Nat.ne_of_gt (aCt (g:=aE) (o:=.cells #[.int .i64 aD,.slice (some eJ) aC.length aG] 25 (0,0)) zz1):bN≠aE);clear bY aA HB;obtain⟨bY,aA,HB,aN,bHi,aTs,dB,dK⟩:=n_;clear hb hbox hg;have rH:=dK.out;have rF:=dB.out;have iG:=aCe aN;have iF:=aCd aN;have iE:=aA0 aN.out 0;have iD:=aA0 aN.out 1));go_upto_region 8 with (first|((with_reducible refine aAj (N:=6) rfl ?_);refine aAf ?hg (N:=6) ?hd (cs:=#[.int .i64 0,.int .i64 0]) (t:=46) ?hr ?_;(case hd=>rfl);(case hg=>rfl);(case hr=>exact aD9);intro bN hg w12 hbox hb;have n_:=zA8 (Kd.aBn aLu hb) (aA4 (g:=aE) (o:=.cells #[.int .i64 aD,.slice (some eJ) aC.length aG] 25 (0,0)) zz1 hb) (aA1 zz0 hb) hbox (aFw:w.heap.size<=bN) (aFw:w.heap.size<=bN) (by rw[hg];exact Nat.ne_of_lt (aCt (g:=aE) (o:=.cells #[.int .i64 aD,.slice (some eJ) aC.length aG] 25 (0,0)) zz1):aE≠bN) (by rw[hg];exact Nat.ne_of_gt (aCt (g:=aE) (o:=.cells #[.int .i64 aD,.slice (some eJ) aC.length aG] 25 (0,0)) zz1):bN≠aE);clear bY aA HB;obtain⟨bY,aA,HB,aN,bHi,aTs,dB,dK⟩:=n_;clear hb hbox hg;have rH:=dK.out;have rF:=dB.out;have iG:=aCe aN;have iF:=aCd aN;have iE:=aA0 aN.out 0;have iD:=aA0 aN.out 1))));(try simp only[Act.put,List.setIfInBounds_toArray,List.set_cons_zero,List.set_cons_succ]);go_cut [34] (λv34 wc=>∃ (kq:Nat) (qL:Bool),v34 = .bool qL/\aA2 (aAm.j2 kq eB bJ aC (aC.length:Int) a8 qL aD aC ((aA3 aC a8).f0) ((aA3 aC a8).f1)=some r)/\aA2 (kq<=k2)/\aA2 (Kd.R (Kd.int .i64) 3 wc w.heap.size (λ_=>True) u3 eB)/\aA2 (wc.heap[aE]? = some (.cells #[.int .i64 aD,(.slice (some eJ) aC.length aG)] 25 (0,0)))/\aA2 (wc.heap[bN]? = some (.cells #[.int .i64 ((aA3 aC a8).f0),.int .i64 ((aA3 aC a8).f1)] 46 (0,0)))/\aA2 (Below w.heap.size w wc))
     case first =>
      have H:=bPz.out;clear bPz;by_cases c15:0<=bJ;rotate_left
      ·rw[if_neg c15]at H;exact absurd H (by simp)
      rw[if_pos c15]at H;have mK:=zdY c15;clear c15;(first|rw[mK]|(simp only[aFm,aMb];rw[mK])|skip);by_cases c16:bJ<(eB.length:Int);rotate_left
      ·rw[if_neg c16]at H;exact absurd H (by simp)
      rw[if_pos c16]at H;have mS:=zdY c16;clear c16;by_cases c17:((aA3 aC a8).f0)=(rd eB bJ);rotate_left
      ·rw[if_neg c17]at H;have oI:(((aA3 aC a8).f0)==(rd eB bJ))=false:=beq_eq_false_iff_ne.mpr c17;have yY:(((aA3 aC a8).f0) != (rd eB bJ))=true:=bne_iff_ne.mpr c17;have H':=zK_ H;clear H;have vP:=dK.out;have vO:=dB.out;have mE:=aCe aN;have mD:=aCd aN;have l8:=aA0 aN.out 0;have l7:=aA0 aN.out 1;obtain⟨bQ9,bP9,zZ⟩:=Kd.aBr bY.out;subst zZ;have aS0:0<=(bJ:Int):=zdT zz4;have aRz:bJ<(eB.length:Int):=zdT zz4;obtain⟨n9,bGg,d4⟩:=Kd.aCl (Kd.aAl bY.out).2.2 bJ aS0 aRz;cases bGg;have hn107_0:n9.block≠bN:=Kd.aFj (Kd.aF1 bY.out aN.out (by decide));have hn107_1:n9.block≠bN:=Kd.aFj (Kd.aF1 bY.out aN.out (by decide));replace d4:=(cell_far (p:=⟨bN,0,none⟩) (by first|(rw[add_block];exact hn107_0)|(show (Addr.add _ _).block≠_;rw[add_block];exact hn107_0)|exact hn107_0) (.int .i64 ((aA3 aC a8).f0))).trans d4;replace d4:=(cell_far (p:=⟨bN,1,none⟩) (by first|(rw[add_block];exact hn107_1)|(show (Addr.add _ _).block≠_;rw[add_block];exact hn107_1)|exact hn107_1) (.int .i64 ((aA3 aC a8).f1))).trans d4;(try have hy107_0:=λ(n_:Nat)=>(show ((((w12.drewN n_).setCell ⟨bN,0,none⟩ (.int .i64 ((aA3 aC a8).f0))).setCell ⟨bN,1,none⟩ (.int .i64 ((aA3 aC a8).f1)))).cell? _=some _ from d4));clear hn107_0;clear hn107_1;replace aS0:=eq_true aS0;replace aRz:=eq_true aRz;go_wp2;(repeat(go_quiet (fail);try go_wp2));(go_meet);case rel=>exact⟨_,(false),zz6,H',⟨by have:=HK1.out;have:=HK2.out;first|omega|exact Nat.le_refl _⟩,⟨bIi⟩,⟨bIc⟩,⟨bIp⟩,⟨aIl⟩⟩
      rw[if_pos c17]at H;have oI:(((aA3 aC a8).f0)==(rd eB bJ))=true:=beq_iff_eq.mpr c17;have yY:(((aA3 aC a8).f0) != (rd eB bJ))=false:=bne_eq_false_iff_eq.mpr c17;clear c17;obtain⟨eO,bEl,H⟩:=zO_ H;(try dsimp only at H);have A18:=zK_ bEl;clear bEl;have H':=zK_ H;clear H;have yP:=dK.out;have yM:=dB.out;have pC:=aCe aN;have pA:=aCd aN;have o1:=aA0 aN.out 0;have o0:=aA0 aN.out 1;obtain⟨bWp,bPc,NH⟩:=Kd.aBr bY.out;subst NH;have aS0:0<=(bJ:Int):=zdT zz4;have aRz:bJ<(eB.length:Int):=zdT zz4;obtain⟨n9,bGg,d4⟩:=Kd.aCl (Kd.aAl bY.out).2.2 bJ aS0 aRz;cases bGg;have hn107_0:n9.block≠bN:=Kd.aFj (Kd.aF1 bY.out aN.out (by decide));have hn107_1:n9.block≠bN:=Kd.aFj (Kd.aF1 bY.out aN.out (by decide));replace d4:=(cell_far (p:=⟨bN,0,none⟩) (by first|(rw[add_block];exact hn107_0)|(show (Addr.add _ _).block≠_;rw[add_block];exact hn107_0)|exact hn107_0) (.int .i64 ((aA3 aC a8).f0))).trans d4;replace d4:=(cell_far (p:=⟨bN,1,none⟩) (by first|(rw[add_block];exact hn107_1)|(show (Addr.add _ _).block≠_;rw[add_block];exact hn107_1)|exact hn107_1) (.int .i64 ((aA3 aC a8).f1))).trans d4;(try have hy107_0:=λ(n_:Nat)=>(show ((((w12.drewN n_).setCell ⟨bN,0,none⟩ (.int .i64 ((aA3 aC a8).f0))).setCell ⟨bN,1,none⟩ (.int .i64 ((aA3 aC a8).f1)))).cell? _=some _ from d4));clear hn107_0;clear hn107_1;replace aS0:=eq_true aS0;replace aRz:=eq_true aRz;(go_wp2_with (first|(go_at_call 92;(with_reducible refine(aBo.calls k2 _ _ eB ((aA3 aC a8).f1) eO _ ?side1 ?side2 A18.out).mono ?_);(case side1=>refine(Kd.aAl (e:=3) (base:=w.heap.size) (ok:=λk_=>True) (n:=eB.length) (c:=bPc) ?_).2.2;exact bO7);(case side2=>exact(Kd.aAl bY.out).2.1);rintro e w' ⟨rfl,⟨nd,rfl⟩⟩;(try first|exact⟨rfl,_,World.drewN_drewN _ _ _⟩|exact⟨rfl,_,Eq.trans (World.drewN_drewN _ _ _) (congrArg (World.drewN _) (Nat.add_assoc _ _ _))⟩))));(repeat(go_quiet (first|(go_at_call 92;(with_reducible refine(aBo.calls k2 _ _ eB ((aA3 aC a8).f1) eO _ ?side1 ?side2 A18.out).mono ?_);(case side1=>refine(Kd.aAl (e:=3) (base:=w.heap.size) (ok:=λk_=>True) (n:=eB.length) (c:=bPc) ?_).2.2;exact bO7);(case side2=>exact(Kd.aAl bY.out).2.1);rintro e w' ⟨rfl,⟨nd,rfl⟩⟩;(try first|exact⟨rfl,_,World.drewN_drewN _ _ _⟩|exact⟨rfl,_,Eq.trans (World.drewN_drewN _ _ _) (congrArg (World.drewN _) (Nat.add_assoc _ _ _))⟩)));try go_wp2_with (first|(go_at_call 92;(with_reducible refine(aBo.calls k2 _ _ eB ((aA3 aC a8).f1) eO _ ?side1 ?side2 A18.out).mono ?_);(case side1=>refine(Kd.aAl (e:=3) (base:=w.heap.size) (ok:=λk_=>True) (n:=eB.length) (c:=bPc) ?_).2.2;exact bO7);(case side2=>exact(Kd.aAl bY.out).2.1);rintro e w' ⟨rfl,⟨nd,rfl⟩⟩;(try first|exact⟨rfl,_,World.drewN_drewN _ _ _⟩|exact⟨rfl,_,Eq.trans (World.drewN_drewN _ _ _) (congrArg (World.drewN _) (Nat.add_assoc _ _ _))⟩)))));(go_meet);case rel=>exact⟨_,(!eO),zz6,H',⟨by have:=HK1.out;have:=HK2.out;first|omega|exact Nat.le_refl _⟩,⟨bIi⟩,⟨bIc⟩,⟨bIp⟩,⟨aIl⟩⟩
     case rest =>
      clear bPz;(try clear c1);(try clear p1);(try clear q1);(try clear hx1);(try clear c2);(try clear p2);(try clear c5);(try clear fD);(try clear c6);(try clear c8);(try clear gV);(try clear c9);(try clear iN);(try clear c10);(try clear fV);(try clear p10);(try clear q10);(try clear bTa);(try clear c13);(try clear c15);(try clear mK);(try clear c16);(try clear mS);(try clear c17);(try clear oI);(try clear yY);(try clear c19);(try clear c22);(try clear iG);(try clear iF);(try clear pC);(try clear pA);(try clear mE);(try clear mD);(try clear gO);(try clear gN);(try clear iE);(try clear iD);(try clear o1);(try clear o0);(try clear l8);(try clear l7);(try clear gM);(try clear gK);(try clear cD);(try clear dL);(try clear d4);(try clear aL8);(try clear aS0);(try clear p2);(try clear aL7);(try clear aRz);obtain⟨kq,qL,rfl,HA,aX4,bY,aA,aN,HB⟩:=hcut
      cases kq with
      | zero=>exact absurd HA.out (by simp[aAm.j2])
      | succ aMk =>
       have H:=HA.out;clear HA;simp only[aAm.j2]at H;by_cases c25:qL=true
       ·subst c25;rw[if_pos rfl]at H;by_cases c26:eB.length<17592186044416;rotate_left
        ·rw[if_neg c26]at H;exact absurd H (by simp)
        rw[if_pos c26]at H;have oB:=zK_ c26;clear c26;obtain⟨cX,hy_⟩:∃ y_:List Int,y_=(eB++[((aA3 aC a8).f1)]):=⟨_,rfl⟩;(replace H:(if 0<=bJ then(if bJ<(cX.length:Int) then(if((aA3 aC a8).f1)=(rd cX bJ) then((aBo.f aMk cX ((aA3 aC a8).f0)).bind λlT=>(if lT=true then(aAm.l1 aMk cX bJ aC (aC.length:Int) (wrap64 (a8+1)) aD aC) else(if cX.length<17592186044416 then(aAm.l1 aMk (cX++[((aA3 aC a8).f0)]) bJ aC (aC.length:Int) (wrap64 (a8+1)) aD aC) else(none)))) else(aAm.l1 aMk cX bJ aC (aC.length:Int) (wrap64 (a8+1)) aD aC)) else(none)) else(none))=some r:=zzY);have jV:=zK_ hy_;clear hy_;by_cases c27:0<=bJ;rotate_left
        ·rw[if_neg c27]at H;exact absurd H (by simp)
        rw[if_pos c27]at H;have wR:=zdY c27;clear c27;by_cases c28:bJ<(cX.length:Int);rotate_left
        ·rw[if_neg c28]at H;exact absurd H (by simp)
        rw[if_pos c28]at H;have qI:=zdY c28;clear c28;by_cases c29:((aA3 aC a8).f1)=(rd cX bJ);rotate_left
        ·rw[if_neg c29]at H;have yT:(((aA3 aC a8).f1)==(rd cX bJ))=false:=beq_eq_false_iff_ne.mpr c29;have FA:(((aA3 aC a8).f1) != (rd cX bJ))=true:=bne_iff_ne.mpr c29;have H':=zK_ H;clear H;have BQ:=dK.out;have AZ:=dB.out;have uC:=aCe aN;have uB:=aCd aN;have tV:=aA0 aN.out 0;have tU:=aA0 aN.out 1;(go_wp2_with (first|((with_reducible refine aBe (b:=.append) (xs:=#[.tmp 35,.tmp 38]) rfl ?_);at_builtin;refine Kd.aD5 (Kd.int .i64) (w0:=w) w.heap.size rfl (.tmp 35) (.tmp 38) 26 3 (.int .i64 0) 8 rfl Tryz.underlying26 info3 rfl (by decide) (by omega) u3 eB ((aA3 aC a8).f1) [.int .i64 ((aA3 aC a8).f1)] (λ_=>True) (λ_=>False) rfl rfl ?aP (λ_ hk=>hk.elim) ?aF ?aO ?aB ?aS ?aL ?_;(case aP=>exact rfl);(case aB=>exact aIl);(case aF=>exact(λ_ _=>trivial));(case aO=>exact aLu);(case aS=>exact(aAa aIl));(case aL=>have:=oB.out;omega);intro aVt w46 ho hb hg hat;rw[<-jV.out]at ho;have n_:=zA4 (aAt (g:=aE) (o:=.cells #[.int .i64 aD,.slice (some eJ) aC.length aG] 25 (0,0)) zz1 hg (Kd.aF1 bY.out aA.out (by decide))) (aAt (g:=bN) (o:=.cells #[.int .i64 ((aA3 aC a8).f0),.int .i64 ((aA3 aC a8).f1)] 46 (0,0)) aMe hg (Kd.aF1 bY.out aN.out (by decide))) hb ho;clear aA aN HB bY;obtain⟨aA,aN,HB,b4⟩:=n_;clear ho hb hg hat;have uA:=aCe aN;have t8:=aCd aN;have tT:=aA0 aN.out 0;have tS:=aA0 aN.out 1;obtain⟨bS2,bRe,wO⟩:=Kd.aBr b4.out;subst wO;have aId:0<=(bJ:Int):=zdT zz4;have aIb:bJ<(cX.length:Int):=zdT zz4;obtain⟨mL,aPk,kB⟩:=Kd.aCl (Kd.aAl b4.out).2.2 bJ aId aIb;cases aPk;replace aId:=eq_true aId;replace aIb:=eq_true aIb)));(repeat(go_quiet (first|((with_reducible refine aBe (b:=.append) (xs:=#[.tmp 35,.tmp 38]) rfl ?_);at_builtin;refine Kd.aD5 (Kd.int .i64) (w0:=w) w.heap.size rfl (.tmp 35) (.tmp 38) 26 3 (.int .i64 0) 8 rfl Tryz.underlying26 info3 rfl (by decide) (by omega) u3 eB ((aA3 aC a8).f1) [.int .i64 ((aA3 aC a8).f1)] (λ_=>True) (λ_=>False) rfl rfl ?aP (λ_ hk=>hk.elim) ?aF ?aO ?aB ?aS ?aL ?_;(case aP=>exact rfl);(case aB=>exact aIl);(case aF=>exact(λ_ _=>trivial));(case aO=>exact aLu);(case aS=>exact(aAa aIl));(case aL=>have:=oB.out;omega);intro aVt w46 ho hb hg hat;rw[<-jV.out]at ho;have n_:=zA4 (aAt (g:=aE) (o:=.cells #[.int .i64 aD,.slice (some eJ) aC.length aG] 25 (0,0)) zz1 hg (Kd.aF1 bY.out aA.out (by decide))) (aAt (g:=bN) (o:=.cells #[.int .i64 ((aA3 aC a8).f0),.int .i64 ((aA3 aC a8).f1)] 46 (0,0)) aMe hg (Kd.aF1 bY.out aN.out (by decide))) hb ho;clear aA aN HB bY;obtain⟨aA,aN,HB,b4⟩:=n_;clear ho hb hg hat;have uA:=aCe aN;have t8:=aCd aN;have tT:=aA0 aN.out 0;have tS:=aA0 aN.out 1;obtain⟨bS2,bRe,wO⟩:=Kd.aBr b4.out;subst wO;have aId:0<=(bJ:Int):=zdT zz4;have aIb:bJ<(cX.length:Int):=zdT zz4;obtain⟨mL,aPk,kB⟩:=Kd.aCl (Kd.aAl b4.out).2.2 bJ aId aIb;cases aPk;replace aId:=eq_true aId;replace aIb:=eq_true aIb));try go_wp2_with (first|((with_reducible refine aBe (b:=.append) (xs:=#[.tmp 35,.tmp 38]) rfl ?_);at_builtin;refine Kd.aD5 (Kd.int .i64) (w0:=w) w.heap.size rfl (.tmp 35) (.tmp 38) 26 3 (.int .i64 0) 8 rfl Tryz.underlying26 info3 rfl (by decide) (by omega) u3 eB ((aA3 aC a8).f1) [.int .i64 ((aA3 aC a8).f1)] (λ_=>True) (λ_=>False) rfl rfl ?aP (λ_ hk=>hk.elim) ?aF ?aO ?aB ?aS ?aL ?_;(case aP=>exact rfl);(case aB=>exact aIl);(case aF=>exact(λ_ _=>trivial));(case aO=>exact aLu);(case aS=>exact(aAa aIl));(case aL=>have:=oB.out;omega);intro aVt w46 ho hb hg hat;rw[<-jV.out]at ho;have n_:=zA4 (aAt (g:=aE) (o:=.cells #[.int .i64 aD,.slice (some eJ) aC.length aG] 25 (0,0)) zz1 hg (Kd.aF1 bY.out aA.out (by decide))) (aAt (g:=bN) (o:=.cells #[.int .i64 ((aA3 aC a8).f0),.int .i64 ((aA3 aC a8).f1)] 46 (0,0)) aMe hg (Kd.aF1 bY.out aN.out (by decide))) hb ho;clear aA aN HB bY;obtain⟨aA,aN,HB,b4⟩:=n_;clear ho hb hg hat;have uA:=aCe aN;have t8:=aCd aN;have tT:=aA0 aN.out 0;have tS:=aA0 aN.out 1;obtain⟨bS2,bRe,wO⟩:=Kd.aBr b4.out;subst wO;have aId:0<=(bJ:Int):=zdT zz4;have aIb:bJ<(cX.length:Int):=zdT zz4;obtain⟨mL,aPk,kB⟩:=Kd.aCl (Kd.aAl b4.out).2.2 bJ aId aIb;cases aPk;replace aId:=eq_true aId;replace aIb:=eq_true aIb))));go_roundg aMk;(case measure=>have:=HK1.out;have:=HK2.out;have:=aX4.out;omega);case rel=>exact⟨(cX),(wrap64 (a8+1)),zz6,H',⟨by have:=HK1.out;have:=HK2.out;have:=aX4.out;omega⟩,⟨by(with_reducible repeat(first|apply Kd.aB6|apply Kd.aB5|apply Kd.aBd));exact b4.out⟩,⟨zz1⟩,⟨aIl⟩⟩
        rw[if_pos c29]at H;have yT:(((aA3 aC a8).f1)==(rd cX bJ))=true:=beq_iff_eq.mpr c29;have FA:(((aA3 aC a8).f1) != (rd cX bJ))=false:=bne_eq_false_iff_eq.mpr c29;clear c29;obtain⟨lT,bSi,H⟩:=zO_ H;(try dsimp only at H);have A30:=zK_ bSi;clear bSi;by_cases c31:lT=true
        ·subst c31;rw[if_pos rfl]at H;have H':=zK_ H;clear H;have BT:=dK.out;have BC:=dB.out;have uI:=aCe aN;have uH:=aCd aN;have t2:=aA0 aN.out 0;have t1:=aA0 aN.out 1;(go_wp2_with (first|((with_reducible refine aBe (b:=.append) (xs:=#[.tmp 35,.tmp 38]) rfl ?_);at_builtin;refine Kd.aD5 (Kd.int .i64) (w0:=w) w.heap.size rfl (.tmp 35) (.tmp 38) 26 3 (.int .i64 0) 8 rfl Tryz.underlying26 info3 rfl (by decide) (by omega) u3 eB ((aA3 aC a8).f1) [.int .i64 ((aA3 aC a8).f1)] (λ_=>True) (λ_=>False) rfl rfl ?aP (λ_ hk=>hk.elim) ?aF ?aO ?aB ?aS ?aL ?_;(case aP=>exact rfl);(case aB=>exact aIl);(case aF=>exact(λ_ _=>trivial));(case aO=>exact aLu);(case aS=>exact(aAa aIl));(case aL=>have:=oB.out;omega);intro aVt w34 ho hb hg hat;rw[<-jV.out]at ho;have n_:=zA4 (aAt (g:=aE) (o:=.cells #[.int .i64 aD,.slice (some eJ) aC.length aG] 25 (0,0)) zz1 hg (Kd.aF1 bY.out aA.out (by decide))) (aAt (g:=bN) (o:=.cells #[.int .i64 ((aA3 aC a8).f0),.int .i64 ((aA3 aC a8).f1)] 46 (0,0)) aMe hg (Kd.aF1 bY.out aN.out (by decide))) hb ho;clear aA aN HB bY;obtain⟨aA,aN,HB,b4⟩:=n_;clear ho hb hg hat;have m8:=aCe aN;have m7:=aCd aN;have mZ:=aA0 aN.out 0;have mY:=aA0 aN.out 1;obtain⟨bS3,bP6,rS⟩:=Kd.aBr b4.out;subst rS;have aId:0<=(bJ:Int):=zdT zz4;have aIb:bJ<(cX.length:Int):=zdT zz4;obtain⟨mL,aPk,kB⟩:=Kd.aCl (Kd.aAl b4.out).2.2 bJ aId aIb;cases aPk;replace aId:=eq_true aId;replace aIb:=eq_true aIb)|(go_at_call 92;(with_reducible refine(aBo.calls aMk _ _ cX ((aA3 aC a8).f0) true _ ?side1 ?side2 A30.out).mono ?_);(case side1=>exact bHv);(case side2=>exact(Kd.aAl b4.out).2.1);rintro e w' ⟨rfl,⟨nd,rfl⟩⟩;(try first|exact⟨rfl,_,World.drewN_drewN _ _ _⟩|exact⟨rfl,_,Eq.trans (World.drewN_drewN _ _ _) (congrArg (World.drewN _) (Nat.add_assoc _ _ _))⟩))));(repeat(go_quiet (first|((with_reducible refine aBe (b:=.append) (xs:=#[.tmp 35,.tmp 38]) rfl ?_);at_builtin;refine Kd.aD5 (Kd.int .i64) (w0:=w) w.heap.size rfl (.tmp 35) (.tmp 38) 26 3 (.int .i64 0) 8 rfl Tryz.underlying26 info3 rfl (by decide) (by omega) u3 eB ((aA3 aC a8).f1) [.int .i64 ((aA3 aC a8).f1)] (λ_=>True) (λ_=>False) rfl rfl ?aP (λ_ hk=>hk.elim) ?aF ?aO ?aB ?aS ?aL ?_;(case aP=>exact rfl);(case aB=>exact aIl);(case aF=>exact(λ_ _=>trivial));(case aO=>exact aLu);(case aS=>exact(aAa aIl));(case aL=>have:=oB.out;omega);intro aVt w34 ho hb hg hat;rw[<-jV.out]at ho;have n_:=zA4 (aAt (g:=aE) (o:=.cells #[.int .i64 aD,.slice (some eJ) aC.length aG] 25 (0,0)) zz1 hg (Kd.aF1 bY.out aA.out (by decide))) (aAt (g:=bN) (o:=.cells #[.int .i64 ((aA3 aC a8).f0),.int .i64 ((aA3 aC a8).f1)] 46 (0,0)) aMe hg (Kd.aF1 bY.out aN.out (by decide))) hb ho;clear aA aN HB bY;obtain⟨aA,aN,HB,b4⟩:=n_;clear ho hb hg hat;have m8:=aCe aN;have m7:=aCd aN;have mZ:=aA0 aN.out 0;have mY:=aA0 aN.out 1;obtain⟨bS3,bP6,rS⟩:=Kd.aBr b4.out;subst rS;have aId:0<=(bJ:Int):=zdT zz4;have aIb:bJ<(cX.length:Int):=zdT zz4;obtain⟨mL,aPk,kB⟩:=Kd.aCl (Kd.aAl b4.out).2.2 bJ aId aIb;cases aPk;replace aId:=eq_true aId;replace aIb:=eq_true aIb)|(go_at_call 92;(with_reducible refine(aBo.calls aMk _ _ cX ((aA3 aC a8).f0) true _ ?side1 ?side2 A30.out).mono ?_);(case side1=>exact bHv);(case side2=>exact(Kd.aAl b4.out).2.1);rintro e w' ⟨rfl,⟨nd,rfl⟩⟩;(try first|exact⟨rfl,_,World.drewN_drewN _ _ _⟩|exact⟨rfl,_,Eq.trans (World.drewN_drewN _ _ _) (congrArg (World.drewN _) (Nat.add_assoc _ _ _))⟩)));try go_wp2_with (first|((with_reducible refine aBe (b:=.append) (xs:=#[.tmp 35,.tmp 38]) rfl ?_);at_builtin;refine Kd.aD5 (Kd.int .i64) (w0:=w) w.heap.size rfl (.tmp 35) (.tmp 38) 26 3 (.int .i64 0) 8 rfl Tryz.underlying26 info3 rfl (by decide) (by omega) u3 eB ((aA3 aC a8).f1) [.int .i64 ((aA3 aC a8).f1)] (λ_=>True) (λ_=>False) rfl rfl ?aP (λ_ hk=>hk.elim) ?aF ?aO ?aB ?aS ?aL ?_;(case aP=>exact rfl);(case aB=>exact aIl);(case aF=>exact(λ_ _=>trivial));(case aO=>exact aLu);(case aS=>exact(aAa aIl));(case aL=>have:=oB.out;omega);intro aVt w34 ho hb hg hat;rw[<-jV.out]at ho;have n_:=zA4 (aAt (g:=aE) (o:=.cells #[.int .i64 aD,.slice (some eJ) aC.length aG] 25 (0,0)) zz1 hg (Kd.aF1 bY.out aA.out (by decide))) (aAt (g:=bN) (o:=.cells #[.int .i64 ((aA3 aC a8).f0),.int .i64 ((aA3 aC a8).f1)] 46 (0,0)) aMe hg (Kd.aF1 bY.out aN.out (by decide))) hb ho;clear aA aN HB bY;obtain⟨aA,aN,HB,b4⟩:=n_;clear ho hb hg hat;have m8:=aCe aN;have m7:=aCd aN;have mZ:=aA0 aN.out 0;have mY:=aA0 aN.out 1;obtain⟨bS3,bP6,rS⟩:=Kd.aBr b4.out;subst rS;have aId:0<=(bJ:Int):=zdT zz4;have aIb:bJ<(cX.length:Int):=zdT zz4;obtain⟨mL,aPk,kB⟩:=Kd.aCl (Kd.aAl b4.out).2.2 bJ aId aIb;cases aPk;replace aId:=eq_true aId;replace aIb:=eq_true aIb)|(go_at_call 92;(with_reducible refine(aBo.calls aMk _ _ cX ((aA3 aC a8).f0) true _ ?side1 ?side2 A30.out).mono ?_);(case side1=>exact bHv);(case side2=>exact(Kd.aAl b4.out).2.1);rintro e w' ⟨rfl,⟨nd,rfl⟩⟩;(try first|exact⟨rfl,_,World.drewN_drewN _ _ _⟩|exact⟨rfl,_,Eq.trans (World.drewN_drewN _ _ _) (congrArg (World.drewN _) (Nat.add_assoc _ _ _))⟩)))));go_roundg aMk;(case measure=>have:=HK1.out;have:=HK2.out;have:=aX4.out;omega);case rel=>exact⟨(cX),(wrap64 (a8+1)),zz6,H',⟨by have:=HK1.out;have:=HK2.out;have:=aX4.out;omega⟩,⟨by(with_reducible repeat(first|apply Kd.aB6|apply Kd.aB5|apply Kd.aBd));exact b4.out⟩,⟨zz1⟩,⟨aIl⟩⟩
        replace c31:=zdB c31;subst c31;rw[if_neg (show ¬ (false=true) by decide)]at H;by_cases c37:cX.length<17592186044416;rotate_left
        ·rw[if_neg c37]at H;exact absurd H (by simp)
        rw[if_pos c37]at H;have xE:=zK_ c37;clear c37;obtain⟨AR,hy_⟩:∃ y_:List Int,y_=(cX++[((aA3 aC a8).f0)]):=⟨_,rfl⟩;(replace H:(aAm.l1 aMk AR bJ aC (aC.length:Int) (wrap64 (a8+1)) aD aC)=some r:=zzY);have xC:=zK_ hy_;clear hy_;have H':=zK_ H;clear H;have PS:=dK.out;have OP:=dB.out;have uG:=aCe aN;have uF:=aCd aN;have tZ:=aA0 aN.out 0;have tY:=aA0 aN.out 1;(go_wp2_with (first|((with_reducible refine aBe (b:=.append) (xs:=#[.tmp 35,.tmp 38]) rfl ?_);at_builtin;refine Kd.aD5 (Kd.int .i64) (w0:=w) w.heap.size rfl (.tmp 35) (.tmp 38) 26 3 (.int .i64 0) 8 rfl Tryz.underlying26 info3 rfl (by decide) (by omega) u3 eB ((aA3 aC a8).f1) [.int .i64 ((aA3 aC a8).f1)] (λ_=>True) (λ_=>False) rfl rfl ?aP (λ_ hk=>hk.elim) ?aF ?aO ?aB ?aS ?aL ?_;(case aP=>exact rfl);(case aB=>exact aIl);(case aF=>exact(λ_ _=>trivial));(case aO=>exact aLu);(case aS=>exact(aAa aIl));(case aL=>have:=oB.out;omega);intro aVt w40 ho hb hg hat;rw[<-jV.out]at ho;have n_:=zA4 (aAt (g:=aE) (o:=.cells #[.int .i64 aD,.slice (some eJ) aC.length aG] 25 (0,0)) zz1 hg (Kd.aF1 bY.out aA.out (by decide))) (aAt (g:=bN) (o:=.cells #[.int .i64 ((aA3 aC a8).f0),.int .i64 ((aA3 aC a8).f1)] 46 (0,0)) aMe hg (Kd.aF1 bY.out aN.out (by decide))) hb ho;clear aA aN HB bY;obtain⟨aA,aN,HB,b4⟩:=n_;clear ho hb hg hat;have o3:=aCe aN;have o2:=aCd aN;have oT:=aA0 aN.out 0;have oS:=aA0 aN.out 1;obtain⟨bQ7,bGq,rR⟩:=Kd.aBr b4.out;subst rR;have aId:0<=(bJ:Int):=zdT zz4;have aIb:bJ<(cX.length:Int):=zdT zz4;obtain⟨mL,aPk,kB⟩:=Kd.aCl (Kd.aAl b4.out).2.2 bJ aId aIb;cases aPk;replace aId:=eq_true aId;replace aIb:=eq_true aIb)|(go_at_call 92;(with_reducible refine(aBo.calls aMk _ _ cX ((aA3 aC a8).f0) false _ ?side1 ?side2 A30.out).mono ?_);(case side1=>exact bHv);(case side2=>exact(Kd.aAl b4.out).2.1);rintro e w' ⟨rfl,⟨nd,rfl⟩⟩;(try first|exact⟨rfl,_,World.drewN_drewN _ _ _⟩|exact⟨rfl,_,Eq.trans (World.drewN_drewN _ _ _) (congrArg (World.drewN _) (Nat.add_assoc _ _ _))⟩))|((with_reducible refine aBe (b:=.append) (xs:=#[.tmp 54,.tmp 57]) rfl ?_);at_builtin;refine Kd.aD5 (Kd.int .i64) (w0:=w) w.heap.size rfl (.tmp 54) (.tmp 57) 26 3 (.int .i64 0) 8 rfl Tryz.underlying26 info3 rfl (by decide) (by omega) (.slice (some mL) cX.length bGq) cX ((aA3 aC a8).f0) [.int .i64 ((aA3 aC a8).f0)] (λ_=>True) (λ_=>False) rfl rfl ?aP (λ_ hk=>hk.elim) ?aF ?aO ?aB ?aS ?aL ?_;(case aP=>exact rfl);(case aB=>exact aIl);(case aF=>exact(λ_ _=>trivial));(case aO=>exact(by(with_reducible repeat(first|apply Kd.aB6|apply Kd.aB5|apply Kd.aBd));exact b4.out));(case aS=>exact(aAa aIl));(case aL=>have:=xE.out;omega);intro bDr w43 ho hb hg hat;rw[<-xC.out]at ho;have n_:=zA4 (aAt (g:=aE) (o:=.cells #[.int .i64 aD,.slice (some eJ) aC.length aG] 25 (0,0)) zz1 hg (Kd.aF1 b4.out aA.out (by decide))) (aAt (g:=bN) (o:=.cells #[.int .i64 ((aA3 aC a8).f0),.int .i64 ((aA3 aC a8).f1)] 46 (0,0)) aMe hg (Kd.aF1 b4.out aN.out (by decide))) hb ho;clear aA aN HB b4;obtain⟨aA,aN,HB,nL⟩:=n_;clear ho hb hg hat)));(repeat(go_quiet (first|((with_reducible refine aBe (b:=.append) (xs:=#[.tmp 35,.tmp 38]) rfl ?_);at_builtin;refine Kd.aD5 (Kd.int .i64) (w0:=w) w.heap.size rfl (.tmp 35) (.tmp 38) 26 3 (.int .i64 0) 8 rfl Tryz.underlying26 info3 rfl (by decide) (by omega) u3 eB ((aA3 aC a8).f1) [.int .i64 ((aA3 aC a8).f1)] (λ_=>True) (λ_=>False) rfl rfl ?aP (λ_ hk=>hk.elim) ?aF ?aO ?aB ?aS ?aL ?_;(case aP=>exact rfl);(case aB=>exact aIl);(case aF=>exact(λ_ _=>trivial));(case aO=>exact aLu);(case aS=>exact(aAa aIl));(case aL=>have:=oB.out;omega);intro aVt w40 ho hb hg hat;rw[<-jV.out]at ho;have n_:=zA4 (aAt (g:=aE) (o:=.cells #[.int .i64 aD,.slice (some eJ) aC.length aG] 25 (0,0)) zz1 hg (Kd.aF1 bY.out aA.out (by decide))) (aAt (g:=bN) (o:=.cells #[.int .i64 ((aA3 aC a8).f0),.int .i64 ((aA3 aC a8).f1)] 46 (0,0)) aMe hg (Kd.aF1 bY.out aN.out (by decide))) hb ho;clear aA aN HB bY;obtain⟨aA,aN,HB,b4⟩:=n_;clear ho hb hg hat;have o3:=aCe aN;have o2:=aCd aN;have oT:=aA0 aN.out 0;have oS:=aA0 aN.out 1;obtain⟨bQ7,bGq,rR⟩:=Kd.aBr b4.out;subst rR;have aId:0<=(bJ:Int):=zdT zz4;have aIb:bJ<(cX.length:Int):=zdT zz4;obtain⟨mL,aPk,kB⟩:=Kd.aCl (Kd.aAl b4.out).2.2 bJ aId aIb;cases aPk;replace aId:=eq_true aId;replace aIb:=eq_true aIb)|(go_at_call 92;(with_reducible refine(aBo.calls aMk _ _ cX ((aA3 aC a8).f0) false _ ?side1 ?side2 A30.out).mono ?_);(case side1=>exact bHv);(case side2=>exact(Kd.aAl b4.out).2.1);rintro e w' ⟨rfl,⟨nd,rfl⟩⟩;(try first|exact⟨rfl,_,World.drewN_drewN _ _ _⟩|exact⟨rfl,_,Eq.trans (World.drewN_drewN _ _ _) (congrArg (World.drewN _) (Nat.add_assoc _ _ _))⟩))|((with_reducible refine aBe (b:=.append) (xs:=#[.tmp 54,.tmp 57]) rfl ?_);at_builtin;refine Kd.aD5 (Kd.int .i64) (w0:=w) w.heap.size rfl (.tmp 54) (.tmp 57) 26 3 (.int .i64 0) 8 rfl Tryz.underlying26 info3 rfl (by decide) (by omega) (.slice (some mL) cX.length bGq) cX ((aA3 aC a8).f0) [.int .i64 ((aA3 aC a8).f0)] (λ_=>True) (λ_=>False) rfl rfl ?aP (λ_ hk=>hk.elim) ?aF ?aO ?aB ?aS ?aL ?_;(case aP=>exact rfl);(case aB=>exact aIl);(case aF=>exact(λ_ _=>trivial));(case aO=>exact(by(with_reducible repeat(first|apply Kd.aB6|apply Kd.aB5|apply Kd.aBd));exact b4.out));(case aS=>exact(aAa aIl));(case aL=>have:=xE.out;omega);intro bDr w43 ho hb hg hat;rw[<-xC.out]at ho;have n_:=zA4 (aAt (g:=aE) (o:=.cells #[.int .i64 aD,.slice (some eJ) aC.length aG] 25 (0,0)) zz1 hg (Kd.aF1 b4.out aA.out (by decide))) (aAt (g:=bN) (o:=.cells #[.int .i64 ((aA3 aC a8).f0),.int .i64 ((aA3 aC a8).f1)] 46 (0,0)) aMe hg (Kd.aF1 b4.out aN.out (by decide))) hb ho;clear aA aN HB b4;obtain⟨aA,aN,HB,nL⟩:=n_;clear ho hb hg hat));try go_wp2_with (first|((with_reducible refine aBe (b:=.append) (xs:=#[.tmp 35,.tmp 38]) rfl ?_);at_builtin;refine Kd.aD5 (Kd.int .i64) (w0:=w) w.heap.size rfl (.tmp 35) (.tmp 38) 26 3 (.int .i64 0) 8 rfl Tryz.underlying26 info3 rfl (by decide) (by omega) u3 eB ((aA3 aC a8).f1) [.int .i64 ((aA3 aC a8).f1)] (λ_=>True) (λ_=>False) rfl rfl ?aP (λ_ hk=>hk.elim) ?aF ?aO ?aB ?aS ?aL ?_;(case aP=>exact rfl);(case aB=>exact aIl);(case aF=>exact(λ_ _=>trivial));(case aO=>exact aLu);(case aS=>exact(aAa aIl));(case aL=>have:=oB.out;omega);intro aVt w40 ho hb hg hat;rw[<-jV.out]at ho;have n_:=zA4 (aAt (g:=aE) (o:=.cells #[.int .i64 aD,.slice (some eJ) aC.length aG] 25 (0,0)) zz1 hg (Kd.aF1 bY.out aA.out (by decide))) (aAt (g:=bN) (o:=.cells #[.int .i64 ((aA3 aC a8).f0),.int .i64 ((aA3 aC a8).f1)] 46 (0,0)) aMe hg (Kd.aF1 bY.out aN.out (by decide))) hb ho;clear aA aN HB bY;obtain⟨aA,aN,HB,b4⟩:=n_;clear ho hb hg hat;have o3:=aCe aN;have o2:=aCd aN;have oT:=aA0 aN.out 0;have oS:=aA0 aN.out 1;obtain⟨bQ7,bGq,rR⟩:=Kd.aBr b4.out;subst rR;have aId:0<=(bJ:Int):=zdT zz4;have aIb:bJ<(cX.length:Int):=zdT zz4;obtain⟨mL,aPk,kB⟩:=Kd.aCl (Kd.aAl b4.out).2.2 bJ aId aIb;cases aPk;replace aId:=eq_true aId;replace aIb:=eq_true aIb)|(go_at_call 92;(with_reducible refine(aBo.calls aMk _ _ cX ((aA3 aC a8).f0) false _ ?side1 ?side2 A30.out).mono ?_);(case side1=>exact bHv);(case side2=>exact(Kd.aAl b4.out).2.1);rintro e w' ⟨rfl,⟨nd,rfl⟩⟩;(try first|exact⟨rfl,_,World.drewN_drewN _ _ _⟩|exact⟨rfl,_,Eq.trans (World.drewN_drewN _ _ _) (congrArg (World.drewN _) (Nat.add_assoc _ _ _))⟩))|((with_reducible refine aBe (b:=.append) (xs:=#[.tmp 54,.tmp 57]) rfl ?_);at_builtin;refine Kd.aD5 (Kd.int .i64) (w0:=w) w.heap.size rfl (.tmp 54) (.tmp 57) 26 3 (.int .i64 0) 8 rfl Tryz.underlying26 info3 rfl (by decide) (by omega) (.slice (some mL) cX.length bGq) cX ((aA3 aC a8).f0) [.int .i64 ((aA3 aC a8).f0)] (λ_=>True) (λ_=>False) rfl rfl ?aP (λ_ hk=>hk.elim) ?aF ?aO ?aB ?aS ?aL ?_;(case aP=>exact rfl);(case aB=>exact aIl);(case aF=>exact(λ_ _=>trivial));(case aO=>exact(by(with_reducible repeat(first|apply Kd.aB6|apply Kd.aB5|apply Kd.aBd));exact b4.out));(case aS=>exact(aAa aIl));(case aL=>have:=xE.out;omega);intro bDr w43 ho hb hg hat;rw[<-xC.out]at ho;have n_:=zA4 (aAt (g:=aE) (o:=.cells #[.int .i64 aD,.slice (some eJ) aC.length aG] 25 (0,0)) zz1 hg (Kd.aF1 b4.out aA.out (by decide))) (aAt (g:=bN) (o:=.cells #[.int .i64 ((aA3 aC a8).f0),.int .i64 ((aA3 aC a8).f1)] 46 (0,0)) aMe hg (Kd.aF1 b4.out aN.out (by decide))) hb ho;clear aA aN HB b4;obtain⟨aA,aN,HB,nL⟩:=n_;clear ho hb hg hat))));go_roundg aMk;(case measure=>have:=HK1.out;have:=HK2.out;have:=aX4.out;omega);case rel=>exact⟨(AR),(wrap64 (a8+1)),zz6,H',⟨by have:=HK1.out;have:=HK2.out;have:=aX4.out;omega⟩,⟨by(with_reducible repeat(first|apply Kd.aB6|apply Kd.aB5|apply Kd.aBd));exact nL.out⟩,⟨zz1⟩,⟨aIl⟩⟩
       replace c25:=zdB c25;subst c25;rw[if_neg (show ¬ (false=true) by decide)]at H;by_cases c49:0<=bJ;rotate_left
       ·rw[if_neg c49]at H;exact absurd H (by simp)
       rw[if_pos c49]at H;have yQ:=zdY c49;clear c49;by_cases c50:bJ<(eB.length:Int);rotate_left
       ·rw[if_neg c50]at H;exact absurd H (by simp)
       rw[if_pos c50]at H;have uP:=zdY c50;clear c50;by_cases c51:((aA3 aC a8).f1)=(rd eB bJ);rotate_left
       ·rw[if_neg c51]at H;have uO:(((aA3 aC a8).f1)==(rd eB bJ))=false:=beq_eq_false_iff_ne.mpr c51;have E8:(((aA3 aC a8).f1) != (rd eB bJ))=true:=bne_iff_ne.mpr c51;have H':=zK_ H;clear H;have BN:=dK.out;have AW:=dB.out;have I3:=aCe aN;have I2:=aCd aN;have G4:=aA0 aN.out 0;have G3:=aA0 aN.out 1;obtain⟨bWj,bW5,M7⟩:=Kd.aBr bY.out;subst M7;have aYp:0<=(bJ:Int):=zdT zz4;have aYk:bJ<(eB.length:Int):=zdT zz4;obtain⟨sC,e117,tL⟩:=Kd.aCl (Kd.aAl bY.out).2.2 bJ aYp aYk;cases e117;replace aYp:=eq_true aYp;replace aYk:=eq_true aYk;go_wp2;(repeat(go_quiet (fail);try go_wp2));go_roundg aMk;(case measure=>have:=HK1.out;have:=HK2.out;have:=aX4.out;omega);case rel=>exact⟨(eB),(wrap64 (a8+1)),zz6,H',⟨by have:=HK1.out;have:=HK2.out;have:=aX4.out;omega⟩,⟨aLu⟩,⟨zz1⟩,⟨aIl⟩⟩
       rw[if_pos c51]at H;have uO:(((aA3 aC a8).f1)==(rd eB bJ))=true:=beq_iff_eq.mpr c51;have E8:(((aA3 aC a8).f1) != (rd eB bJ))=false:=bne_eq_false_iff_eq.mpr c51;clear c51;obtain⟨jK,bMu,H⟩:=zO_ H;(try dsimp only at H);have A52:=zK_ bMu;clear bMu;by_cases c53:jK=true
       ·subst c53;rw[if_pos rfl]at H;have H':=zK_ H;clear H;have PN:=dK.out;have OK:=dB.out;have I9:=aCe aN;have I8:=aCd aN;have HY:=aA0 aN.out 0;have G9:=aA0 aN.out 1;obtain⟨bWl,bW6,NB⟩:=Kd.aBr bY.out;subst NB;have aYp:0<=(bJ:Int):=zdT zz4;have aYk:bJ<(eB.length:Int):=zdT zz4;obtain⟨sC,e117,tL⟩:=Kd.aCl (Kd.aAl bY.out).2.2 bJ aYp aYk;cases e117;replace aYp:=eq_true aYp;replace aYk:=eq_true aYk;(go_wp2_with (first|(go_at_call 92;(with_reducible refine(aBo.calls aMk _ _ eB ((aA3 aC a8).f0) true _ ?side1 ?side2 A52.out).mono ?_);(case side1=>exact bHt);(case side2=>exact(Kd.aAl bY.out).2.1);rintro e w' ⟨rfl,⟨nd,rfl⟩⟩;(try first|exact⟨rfl,_,World.drewN_drewN _ _ _⟩|exact⟨rfl,_,Eq.trans (World.drewN_drewN _ _ _) (congrArg (World.drewN _) (Nat.add_assoc _ _ _))⟩))));(repeat(go_quiet (first|(go_at_call 92;(with_reducible refine(aBo.calls aMk _ _ eB ((aA3 aC a8).f0) true _ ?side1 ?side2 A52.out).mono ?_);(case side1=>exact bHt);(case side2=>exact(Kd.aAl bY.out).2.1);rintro e w' ⟨rfl,⟨nd,rfl⟩⟩;(try first|exact⟨rfl,_,World.drewN_drewN _ _ _⟩|exact⟨rfl,_,Eq.trans (World.drewN_drewN _ _ _) (congrArg (World.drewN _) (Nat.add_assoc _ _ _))⟩)));try go_wp2_with (first|(go_at_call 92;(with_reducible refine(aBo.calls aMk _ _ eB ((aA3 aC a8).f0) true _ ?side1 ?side2 A52.out).mono ?_);(case side1=>exact bHt);(case side2=>exact(Kd.aAl bY.out).2.1);rintro e w' ⟨rfl,⟨nd,rfl⟩⟩;(try first|exact⟨rfl,_,World.drewN_drewN _ _ _⟩|exact⟨rfl,_,Eq.trans (World.drewN_drewN _ _ _) (congrArg (World.drewN _) (Nat.add_assoc _ _ _))⟩)))));go_roundg aMk;(case measure=>have:=HK1.out;have:=HK2.out;have:=aX4.out;omega);case rel=>exact⟨(eB),(wrap64 (a8+1)),zz6,H',⟨by have:=HK1.out;have:=HK2.out;have:=aX4.out;omega⟩,⟨aLu⟩,⟨zz1⟩,⟨aIl⟩⟩
       replace c53:=zdB c53;subst c53;rw[if_neg (show ¬ (false=true) by decide)]at H;by_cases c57:eB.length<17592186044416;rotate_left
       ·rw[if_neg c57]at H;exact absurd H (by simp)
       rw[if_pos c57]at H;have xD:=zK_ c57;clear c57;obtain⟨nM,hy_⟩:∃ y_:List Int,y_=(eB++[((aA3 aC a8).f0)]):=⟨_,rfl⟩;(replace H:(aAm.l1 aMk nM bJ aC (aC.length:Int) (wrap64 (a8+1)) aD aC)=some r:=zzY);have sD:=zK_ hy_;clear hy_;have H':=zK_ H;clear H;have BO:=dK.out;have AX:=dB.out;have I7:=aCe aN;have I6:=aCd aN;have G8:=aA0 aN.out 0;have G7:=aA0 aN.out 1;obtain⟨bWk,bP4,M9⟩:=Kd.aBr bY.out;subst M9;have aYp:0<=(bJ:Int):=zdT zz4;have aYk:bJ<(eB.length:Int):=zdT zz4;obtain⟨sC,e117,tL⟩:=Kd.aCl (Kd.aAl bY.out).2.2 bJ aYp aYk;cases e117;replace aYp:=eq_true aYp;replace aYk:=eq_true aYk;(go_wp2_with (first|(go_at_call 92;(with_reducible refine(aBo.calls aMk _ _ eB ((aA3 aC a8).f0) false _ ?side1 ?side2 A52.out).mono ?_);(case side1=>exact bHt);(case side2=>exact(Kd.aAl bY.out).2.1);rintro e w' ⟨rfl,⟨nd,rfl⟩⟩;(try first|exact⟨rfl,_,World.drewN_drewN _ _ _⟩|exact⟨rfl,_,Eq.trans (World.drewN_drewN _ _ _) (congrArg (World.drewN _) (Nat.add_assoc _ _ _))⟩))|((with_reducible refine aBe (b:=.append) (xs:=#[.tmp 54,.tmp 57]) rfl ?_);at_builtin;refine Kd.aD5 (Kd.int .i64) (w0:=w) w.heap.size rfl (.tmp 54) (.tmp 57) 26 3 (.int .i64 0) 8 rfl Tryz.underlying26 info3 rfl (by decide) (by omega) (.slice (some sC) eB.length bP4) eB ((aA3 aC a8).f0) [.int .i64 ((aA3 aC a8).f0)] (λ_=>True) (λ_=>False) rfl rfl ?aP (λ_ hk=>hk.elim) ?aF ?aO ?aB ?aS ?aL ?_;(case aP=>exact rfl);(case aB=>exact aIl);(case aF=>exact(λ_ _=>trivial));(case aO=>exact aLu);(case aS=>exact(aAa aIl));(case aL=>have:=xD.out;omega);intro bOd w61 ho hb hg hat;rw[<-sD.out]at ho;have n_:=zA4 (aAt (g:=aE) (o:=.cells #[.int .i64 aD,.slice (some eJ) aC.length aG] 25 (0,0)) zz1 hg (Kd.aF1 bY.out aA.out (by decide))) (aAt (g:=bN) (o:=.cells #[.int .i64 ((aA3 aC a8).f0),.int .i64 ((aA3 aC a8).f1)] 46 (0,0)) aMe hg (Kd.aF1 bY.out aN.out (by decide))) hb ho;clear aA aN HB bY;obtain⟨aA,aN,HB,mM⟩:=n_;clear ho hb hg hat)));(repeat(go_quiet (first|(go_at_call 92;(with_reducible refine(aBo.calls aMk _ _ eB ((aA3 aC a8).f0) false _ ?side1 ?side2 A52.out).mono ?_);(case side1=>exact bHt);(case side2=>exact(Kd.aAl bY.out).2.1);rintro e w' ⟨rfl,⟨nd,rfl⟩⟩;(try first|exact⟨rfl,_,World.drewN_drewN _ _ _⟩|exact⟨rfl,_,Eq.trans (World.drewN_drewN _ _ _) (congrArg (World.drewN _) (Nat.add_assoc _ _ _))⟩))|((with_reducible refine aBe (b:=.append) (xs:=#[.tmp 54,.tmp 57]) rfl ?_);at_builtin;refine Kd.aD5 (Kd.int .i64) (w0:=w) w.heap.size rfl (.tmp 54) (.tmp 57) 26 3 (.int .i64 0) 8 rfl Tryz.underlying26 info3 rfl (by decide) (by omega) (.slice (some sC) eB.length bP4) eB ((aA3 aC a8).f0) [.int .i64 ((aA3 aC a8).f0)] (λ_=>True) (λ_=>False) rfl rfl ?aP (λ_ hk=>hk.elim) ?aF ?aO ?aB ?aS ?aL ?_;(case aP=>exact rfl);(case aB=>exact aIl);(case aF=>exact(λ_ _=>trivial));(case aO=>exact aLu);(case aS=>exact(aAa aIl));(case aL=>have:=xD.out;omega);intro bOd w61 ho hb hg hat;rw[<-sD.out]at ho;have n_:=zA4 (aAt (g:=aE) (o:=.cells #[.int .i64 aD,.slice (some eJ) aC.length aG] 25 (0,0)) zz1 hg (Kd.aF1 bY.out aA.out (by decide))) (aAt (g:=bN) (o:=.cells #[.int .i64 ((aA3 aC a8).f0),.int .i64 ((aA3 aC a8).f1)] 46 (0,0)) aMe hg (Kd.aF1 bY.out aN.out (by decide))) hb ho;clear aA aN HB bY;obtain⟨aA,aN,HB,mM⟩:=n_;clear ho hb hg hat));try go_wp2_with (first|(go_at_call 92;(with_reducible refine(aBo.calls aMk _ _ eB ((aA3 aC a8).f0) false _ ?side1 ?side2 A52.out).mono ?_);(case side1=>exact bHt);(case side2=>exact(Kd.aAl bY.out).2.1);rintro e w' ⟨rfl,⟨nd,rfl⟩⟩;(try first|exact⟨rfl,_,World.drewN_drewN _ _ _⟩|exact⟨rfl,_,Eq.trans (World.drewN_drewN _ _ _) (congrArg (World.drewN _) (Nat.add_assoc _ _ _))⟩))|((with_reducible refine aBe (b:=.append) (xs:=#[.tmp 54,.tmp 57]) rfl ?_);at_builtin;refine Kd.aD5 (Kd.int .i64) (w0:=w) w.heap.size rfl (.tmp 54) (.tmp 57) 26 3 (.int .i64 0) 8 rfl Tryz.underlying26 info3 rfl (by decide) (by omega) (.slice (some sC) eB.length bP4) eB ((aA3 aC a8).f0) [.int .i64 ((aA3 aC a8).f0)] (λ_=>True) (λ_=>False) rfl rfl ?aP (λ_ hk=>hk.elim) ?aF ?aO ?aB ?aS ?aL ?_;(case aP=>exact rfl);(case aB=>exact aIl);(case aF=>exact(λ_ _=>trivial));(case aO=>exact aLu);(case aS=>exact(aAa aIl));(case aL=>have:=xD.out;omega);intro bOd w61 ho hb hg hat;rw[<-sD.out]at ho;have n_:=zA4 (aAt (g:=aE) (o:=.cells #[.int .i64 aD,.slice (some eJ) aC.length aG] 25 (0,0)) zz1 hg (Kd.aF1 bY.out aA.out (by decide))) (aAt (g:=bN) (o:=.cells #[.int .i64 ((aA3 aC a8).f0),.int .i64 ((aA3 aC a8).f1)] 46 (0,0)) aMe hg (Kd.aF1 bY.out aN.out (by decide))) hb ho;clear aA aN HB bY;obtain⟨aA,aN,HB,mM⟩:=n_;clear ho hb hg hat))));go_roundg aMk;(case measure=>have:=HK1.out;have:=HK2.out;have:=aX4.out;omega);case rel=>exact⟨(nM),(wrap64 (a8+1)),zz6,H',⟨by have:=HK1.out;have:=HK2.out;have:=aX4.out;omega⟩,⟨by(with_reducible repeat(first|apply Kd.aB6|apply Kd.aB5|apply Kd.aBd));exact mM.out⟩,⟨zz1⟩,⟨aIl⟩⟩
def aAn.l0:Nat->List (S46)->Int->Int->Int->List (S46)->Option (Bool)
 | 0,_,_,_,_,_=>none
 | k+1,x9,iR,eZ,aY,aW=>if eZ<iR then(if 0<=eZ then(if eZ<(x9.length:Int) then(if eZ>0 then(if 0<=(wrap64 (eZ-1)) then(if(wrap64 (eZ-1))<(aW.length:Int) then(if((aA3 x9 eZ).f0)<((aA3 aW (wrap64 (eZ-1))).f0) then(some false) else(if((aA3 x9 eZ).f0)=((aA3 aW (wrap64 (eZ-1))).f0) then(if((aA3 x9 eZ).f1)<((aA3 aW (wrap64 (eZ-1))).f1) then(some false) else(aAn.l0 k x9 iR (wrap64 (eZ+1)) aY aW)) else(aAn.l0 k x9 iR (wrap64 (eZ+1)) aY aW))) else(none)) else(none)) else(aAn.l0 k x9 iR (wrap64 (eZ+1)) aY aW)) else(none)) else(none)) else((aAm.f k aY aW).bind λeO=>(some ((eO.length:Int)==aY)))
def aAn.f (k:Nat) (aD:Int) (aC:List (S46)):Option (Bool):=(aBl.f k aD aC).bind λaQ=>(if aQ=true then(aAn.l0 k aC (aC.length:Int) 0 aD aC) else(some false))
theorem aAn.aBp:∀ k,(∀ y0 y1 y2 y3 y4,LeO (aAn.l0 k y0 y1 y2 y3 y4) (aAn.l0 (k+1) y0 y1 y2 y3 y4))
 | 0=>λ_ _ _ _ _ r h=>by simp[aAn.l0]at h
 | k+1=>by
  have ih0:=aAn.aBp k
  ·intro y0 y1 y2 y3 y4
   unfold aAn.l0
   exact bQh
theorem aAn.mono:∀ a0 a1 k,LeO (aAn.f k a0 a1) (aAn.f (k+1) a0 a1):=by
 intro a0 a1 k;have ih0:=aAn.aBp k;unfold aAn.f;exact bQh
def aAn.T6:Bool×List (List Nat×List Nat):=(true,[([],[]),([0],[0]),([1],[1]),([2],[2]),([3,2],[2,3]),([2],[2]),([5,2],[2,5]),([2],[2]),([7,2],[2,7]),([6,8,2],[2,6,8]),([9,2],[2,9]),([10,2],[2,10]),([4,11,2],[2,4,11]),([12,2,2],[2,12]),([13],[13]),([14,13],[13,14]),([13],[13]),([16,13],[13,16]),([13],[13]),([18,13],[13,18]),([17,19,13],[13,17,19]),([20,13],[13,20]),([21,13],[13,21]),([15,22,13],[13,15,22]),([23,13,13],[13,23]),([24],[24]),([25,24],[24,25]),([24],[24]),([27,24],[24,27]),([24],[24]),([29,24],[24,29]),([28,30,24],[24,28,30]),([31,24],[24,31]),([32,24],[24,32]),([26,33,24],[24,26,33]),([24,34,13],[13,24,34]),([13,35,2],[2,13,35]),([2,36],[2,36])])
def aAn.B6:List Nat:=[0,1,3,7,15,7,39,7,135,487,999,2023,4095,8191,16383,32767,16383,81919,16383,278527,999423,2047999,4145151,8388607,16777215,33554431,67108863,33554431,167772159,33554431,570425343,2046820351,4194303999,8489271295,17179869183,34359738367,68719476735,137438953471]
theorem aAn.tab6:aIo .any (opsOf Tryz.f38 6)=aAn.T6:=by kernel_rfl
theorem aAn.aTm:aFn aAn.T6.2 aAn.B6=true:=by kernel_rfl
theorem aAn.calls (k:Nat) (aD:Int) (aH:Option Addr) (aG:Nat) (aC:List (S46)) (r:Bool) (w:World) (hr0_1:Kd.C k46 w aH aC.length aC) (hc0_1:aC.length<=aG) (h:aAn.f k aD aC=some r) :
  Calls Tryz.prog 38 #[.agg #[.int .i64 aD,.slice aH aC.length aG]] w λe w'=>e = .returned (.bool r)/\Below w.heap.size w w':=by
 have aI5:=Tryz.underlying25;have aV7:=Tryz.underlying46;have b3:=zK_ hr0_1;have bE:=zK_ hc0_1;clear hr0_1 hc0_1;have HB:=zK_ (Below.refl w.heap.size w);have H:((aBl.f k aD aC).bind λaQ=>(if aQ=true then(aAn.l0 k aC (aC.length:Int) 0 aD aC) else(some false)))=some r:=h;clear h;obtain⟨aQ,A20,H⟩:=zO_ H;(try dsimp only at H);have A2:=zK_ A20;clear A20;by_cases c3:aQ=true;rotate_left
 ·replace c3:=zdB c3;subst c3;rw[if_neg (show ¬ (false=true) by decide)]at H;obtain rfl:=zdI H;go_enter Tryz.func38,Tryz.ntmps38;(go_wp2_with (first|((with_reducible refine aAj (N:=1) rfl ?_);refine aAf ?hg (N:=1) ?hd (cs:=#[.int .i64 aD,.slice aH aC.length aG]) (t:=25) ?hr ?_;(case hd=>rfl);(case hg=>rfl);(case hr=>exact aD9);intro aE hg w47 hbox hb;have n_:=zA4 (aA1 zz2 hb) hbox (aDl:w.heap.size<=aE) (aDl:w.heap.size<=aE);clear HB;obtain⟨HB,aA,aDd,aD2⟩:=n_;clear hb hbox hg;have nY:=aCe aA;have nX:=aCd aA;have nS:=aA0 aA.out 0;have nR:=aA0 aA.out 1)|((with_reducible refine aA5 (f:=67) rfl ?_);refine aB8 (some 6) rfl rfl Tryz.func67 (by kernel_rfl) rfl #[.agg #[.int .i64 aD,.slice aH aC.length aG]] rfl zz3 ?_;(with_reducible refine(aBl.calls k aD _ _ aC false _ ?side1 ?side2 A2.out).mono ?_);(case side1=>exact zz5);(case side2=>exact bE.out);rintro e w49 ⟨rfl,hb⟩;refine⟨_,rfl,?_⟩;have n_:=zA2 (aA4 (g:=aE) (o:=.cells #[.int .i64 aD,.slice aH aC.length aG] 25 (0,0)) zz1 hb) (aA1 zz0 hb);clear aA HB;obtain⟨aA,HB⟩:=n_;clear hb)));go_ret;exact⟨zz7,zz0⟩
 subst c3;rw[if_pos rfl]at H;have H':=zK_ H;clear H;go_enter Tryz.func38,Tryz.ntmps38;(go_wp2_with (first|((with_reducible refine aAj (N:=1) rfl ?_);refine aAf ?hg (N:=1) ?hd (cs:=#[.int .i64 aD,.slice aH aC.length aG]) (t:=25) ?hr ?_;(case hd=>rfl);(case hg=>rfl);(case hr=>exact aD9);intro aE hg w4 hbox hb;have n_:=zA4 (aA1 zz2 hb) hbox (aDl:w.heap.size<=aE) (aDl:w.heap.size<=aE);clear HB;obtain⟨HB,aA,aDd,aD2⟩:=n_;clear hb hbox hg;have lI:=aCe aA;have lH:=aCd aA;have lZ:=aA0 aA.out 0;have lG:=aA0 aA.out 1)|((with_reducible refine aA5 (f:=67) rfl ?_);refine aB8 (some 6) rfl rfl Tryz.func67 (by kernel_rfl) rfl #[.agg #[.int .i64 aD,.slice aH aC.length aG]] rfl zz3 ?_;(with_reducible refine(aBl.calls k aD _ _ aC true _ ?side1 ?side2 A2.out).mono ?_);(case side1=>exact zz5);(case side2=>exact bE.out);rintro e w6 ⟨rfl,hb⟩;refine⟨_,rfl,?_⟩;have n_:=zA2 (aA4 (g:=aE) (o:=.cells #[.int .i64 aD,.slice aH aC.length aG] 25 (0,0)) zz1 hb) (aA1 zz0 hb);clear aA HB;obtain⟨aA,HB⟩:=n_;clear hb;have gO:=aCe aA;have gN:=aCd aA;have gM:=aA0 aA.out 0;have gK:=aA0 aA.out 1)));(go_loopg [11] k (λkq v11 w'=>∃ (aM:Int),v11 = .int .i64 aM/\aA2 (aAn.l0 kq aC (aC.length:Int) aM aD aC=some r)/\aA2 (kq<=k)/\aA2 (w'.heap[aE]? = some (.cells #[.int .i64 aD,(.slice aH aC.length aG)] 25 (0,0)))/\aA2 (Below w.heap.size w w')));case atStart=>exact⟨(0),zz6,H',⟨Nat.le_refl _⟩,⟨zz1⟩,⟨zz0⟩⟩
 case round =>
  clear H';(try clear p2);(try clear c3);(try clear c6);(try clear lI);(try clear lH);(try clear gO);(try clear gN);(try clear lZ);(try clear lG);(try clear gM);(try clear gK);obtain⟨aM,rfl,HA,HK1,aA,HB⟩:=hrel
  cases gk with
  | zero=>exact absurd HA.out (by simp[aAn.l0])
  | succ k1 =>
   have H:=HA.out;clear HA;simp only[aAn.l0]at H;by_cases c8:aM<(aC.length:Int);rotate_left
   ·rw[if_neg c8]at H;have gV:=zdN c8;clear c8;obtain⟨eO,bMv,H⟩:=zO_ H;(try dsimp only at H);have A43:=zK_ bMv;clear bMv;obtain rfl:=zdI H;(try go_wp2);have n_:=zA2 (aA9 aA.out) (aAx HB.out);clear aA HB;obtain⟨aA,HB⟩:=n_;refine aFp (n:=7) (S:=λw'=>w'.cell? ⟨aE,0,none⟩=some (.int .i64 aD)/\w'.cell? ⟨aE,1,none⟩=some (.slice aH aC.length aG)) (ds:=[]) (zM 7 0) (by kernel_rfl) rfl rfl ⟨(aAc aA.out 0).trans rfl,(aAc aA.out 1).trans rfl⟩ (λhHeld=>?_);generalize wr.drew=w44 at aA HB hHeld ⊢;refine aKp (i:=3) (N:=some 58) (v:=?_) (a':=?_) (zM 7 8) rfl rfl (by kernel_rfl) (λ_ _ _ h=>h) (Or.inl ⟨by rfl,?_⟩) ?_ ?_;rotate_left
    ·intro w';exact zzT
    rotate_left
    ·exact zzS
    refine aE6 (i:=0) (N:=some 55) (v:=?_) (a':=?_) (zM 7 9) rfl rfl (by kernel_rfl) (λ_ _ _ h=>h) (Or.inl ⟨by rfl,?_⟩) hHeld ?_ ?_;rotate_left
    ·rintro w' ⟨s0,s1⟩;exact zzT
    rotate_left
    ·exact zzS
    refine aE6 (i:=4) (N:=some 59) (v:=?_) (a':=?_) (zM 7 25) rfl rfl (by kernel_rfl) (λ_ _ _ h=>h) (Or.inl ⟨by rfl,?_⟩) hHeld ?_ ?_;rotate_left
    ·rintro w' ⟨s0,s1⟩;exact zzT
    rotate_left
    ·exact zzS
    refine aHv (i:=1) (N:=some 56) (zM 7 27) rfl rfl (by kernel_rfl) (by decide) (λK hK=>?_);refine aG5 Tryz.func68 (by kernel_rfl) rfl #[.agg #[.int .i64 aD,.slice aH aC.length aG]] (by rfl) rfl rfl zz3 ?_;(with_reducible refine(aAm.calls k1 aD _ _ aC eO _ ?side1 ?side2 A43.out).mono ?_);(case side1=>exact zz5);(case side2=>exact bE.out);rintro e w45 ⟨v109,rfl,ho0,hb⟩;refine⟨_,rfl,?_⟩;have n_:=zA3 (Kd.aCn ho0 (aAa zz0)) (aA4 (g:=aE) (o:=.cells #[.int .i64 aD,.slice aH aC.length aG] 25 (0,0)) zz1 hb) (aA1 zz0 hb);clear aA HB;obtain⟨sJ,aA,HB⟩:=n_;clear ho0 hb;obtain⟨bWm,bW7,EU⟩:=Kd.aBr sJ.out;(first|subst EU|(injection EU with f1_ f2_ f3_;have f4_:=f1_.symm;have f5_:=f3_.symm;clear f1_ f2_ f3_;subst f4_;subst f5_));refine hK.out _ _ ⟨(aAc aA.out 0).trans rfl,(aAc aA.out 1).trans rfl⟩ (λhHeld=>?_);clear hK K;refine aEd (a':=?_) ?_ ?_;rotate_left
    ·show Act.put _ (some 56) _=_;exact zzS
    refine aKp (i:=2) (N:=some 57) (v:=?_) (a':=?_) (zM 7 31) rfl rfl (by kernel_rfl) (λ_ _ _ h=>h) (Or.inl ⟨by rfl,?_⟩) ?_ ?_;rotate_left
    ·intro w';exact zzT
    rotate_left
    ·exact zzS
    refine aKp (i:=5) (N:=some 60) (v:=?_) (a':=?_) (zM 7 63) rfl rfl (by kernel_rfl) (λ_ _ _ h=>h) (Or.inl ⟨by rfl,?_⟩) ?_ ?_;rotate_left
    ·intro w';exact zzT
    rotate_left
    ·exact zzS
    refine aKp (i:=6) (N:=some 2) (v:=?_) (a':=?_) (zM 7 127) rfl rfl (by kernel_rfl) (λ_ _ _ h=>h) (Or.inl ⟨by rfl,?_⟩) ?_ ?_;rotate_left
    ·intro w';exact zzT
    rotate_left
    ·exact zzS
    refine aH4 (by kernel_rfl) ?_;(try go_wp2);go_ret;exact⟨zz7,zz0⟩
   rw[if_pos c8]at H;have gV:=zdY c8;clear c8;by_cases c9:0<=aM;rotate_left
   ·rw[if_neg c9]at H;exact absurd H (by simp)
   rw[if_pos c9]at H;have iN:=zdY c9;clear c9;by_cases c10:aM<(aC.length:Int);rotate_left
   ·rw[if_neg c10]at H;exact absurd H (by simp)
   rw[if_pos c10]at H;have fV:=zdY c10;clear c10;by_cases c11:aM>0;rotate_left
   ·rw[if_neg c11]at H;have nJ:decide (0<aM)=false:=zdN c11;clear c11;have H':=zK_ H;clear H;have aEv:0<=(aM:Int):=zdT zz4;have aEu:aM<(aC.length:Int):=zdT zz4;obtain⟨bX,aH7,aZ,bR⟩:=aDo b3.out aM aEv aEu;cases aH7;replace aZ:=(HB.out.cell (World.block_lt_of_cell? w _ aZ)).trans aZ;replace bR:=(HB.out.cell (World.block_lt_of_cell? w _ bR)).trans bR;replace aEv:=eq_true aEv;replace aEu:=eq_true aEu;(try go_wp2_with (first|((with_reducible refine aAj (N:=4) rfl ?_);refine aAf ?hg (N:=4) ?hd (cs:=#[.int .i64 0,.int .i64 0]) (t:=46) ?hr ?_;(case hd=>rfl);(case hg=>rfl);(case hr=>exact aD9);intro bB hg w38 hbox hb;have n_:=zA7 (aA4 (g:=aE) (o:=.cells #[.int .i64 aD,.slice (some bX) aC.length aG] 25 (0,0)) zz1 hb) (aA1 zz0 hb) hbox (aFw:w.heap.size<=bB) (aFw:w.heap.size<=bB) (aS7:aE≠bB) (aS6:bB≠aE);clear aA HB;obtain⟨aA,HB,bH,aL5,aKb,b7,b9⟩:=n_;clear hb hbox hg;have BS:=b9.out;have BB:=b7.out;have JB:=aCe bH;have JA:=aCd bH;have H1:=aA0 bH.out 0;have H0:=aA0 bH.out 1)));have n0_:aA2 (((w38.setCell ⟨bB,0,none⟩ (.int .i64 ((aA3 aC aM).f0))).setCell ⟨bB,1,none⟩ (.int .i64 ((aA3 aC aM).f1))).heap[aE]? = some (.cells #[.int .i64 aD,.slice (some bX) aC.length aG] 25 (0,0))):=⟨bAy⟩;have n1_:aA2 (((w38.setCell ⟨bB,0,none⟩ (.int .i64 ((aA3 aC aM).f0))).setCell ⟨bB,1,none⟩ (.int .i64 ((aA3 aC aM).f1))).heap[bB]? = some (.cells #[.int .i64 ((aA3 aC aM).f0),.int .i64 ((aA3 aC aM).f1)] 46 (0,0))):=⟨bIf⟩;have n2_:aA2 (Below w.heap.size w ((w38.setCell ⟨bB,0,none⟩ (.int .i64 ((aA3 aC aM).f0))).setCell ⟨bB,1,none⟩ (.int .i64 ((aA3 aC aM).f1)))):=⟨aO6⟩;(try clear aA);(try clear bH);(try clear HB);generalize ((w38.setCell ⟨bB,0,none⟩ (.int .i64 ((aA3 aC aM).f0))).setCell ⟨bB,1,none⟩ (.int .i64 ((aA3 aC aM).f1)))=w41 at n0_ n1_ n2_ ⊢;have aA:=n0_;have bH:=n1_;have HB:=n2_;clear n0_ n1_ n2_;have n_:=zA3 (aA9 aA.out) (aA9 bH.out) (aAx HB.out);clear aA bH HB;obtain⟨aA,bH,HB⟩:=n_;refine aFp (n:=38) (S:=λw'=>True) (ds:=[]) (zM 38 0) (by kernel_rfl) rfl rfl trivial (λhHeld=>?_);refine aE1 aAn.tab6 aAn.aTm (λHT_ HW_=>?_);generalize w41.drew=w42 at aA bH HB hHeld ⊢;refine zQ 0 16 (zM 38 1) ?_
    refine zQ 1 17 (zM 38 3) ?_
    refine zQ 2 18 (zM 38 7) ?_
    refine zU 3 19 (zM 38 15) rfl rfl HT_.out ?_ ?_ ?_;rotate_left
    ·exact zzS
    refine zU 4 20 (zM 38 31) rfl rfl HT_.out ?_ ?_ ?_;rotate_left
    ·exact zzS
    refine zU 5 21 (zM 38 63) rfl rfl HT_.out ?_ ?_ ?_;rotate_left
    ·exact zzS
    refine zU 6 22 (zM 38 127) rfl rfl HT_.out ?_ ?_ ?_;rotate_left
    ·exact zzS
    refine zU 7 23 (zM 38 255) rfl rfl HT_.out ?_ ?_ ?_;rotate_left
    ·exact zzS
    refine zU 8 24 (zM 38 511) rfl rfl HT_.out ?_ ?_ ?_;rotate_left
    ·exact zzS
    refine zU 9 25 (zM 38 1023) rfl rfl HT_.out ?_ ?_ ?_;rotate_left
    ·exact zzS
    refine zU 10 26 (zM 38 2047) rfl rfl HT_.out ?_ ?_ ?_;rotate_left
    ·exact zzS
    refine zU 11 27 (zM 38 4095) rfl rfl HT_.out ?_ ?_ ?_;rotate_left
    ·exact zzS
    refine zU 12 28 (zM 38 8191) rfl rfl HT_.out ?_ ?_ ?_;rotate_left
    ·exact zzS
    refine zU 13 29 (zM 38 16383) rfl rfl HT_.out ?_ ?_ ?_;rotate_left
    ·exact zzS
    refine zU 14 30 (zM 38 32767) rfl rfl HT_.out ?_ ?_ ?_;rotate_left
    ·exact zzS
    refine zU 15 31 (zM 38 65535) rfl rfl HT_.out ?_ ?_ ?_;rotate_left
    ·exact zzS
    refine zU 16 32 (zM 38 131071) rfl rfl HT_.out ?_ ?_ ?_;rotate_left
    ·exact zzS
    refine zU 17 33 (zM 38 262143) rfl rfl HT_.out ?_ ?_ ?_;rotate_left
    ·exact zzS
    refine zU 18 34 (zM 38 524287) rfl rfl HT_.out ?_ ?_ ?_;rotate_left
    ·exact zzS
    refine zU 19 35 (zM 38 1048575) rfl rfl HT_.out ?_ ?_ ?_;rotate_left
    ·exact zzS
    refine zU 20 36 (zM 38 2097151) rfl rfl HT_.out ?_ ?_ ?_;rotate_left
    ·exact zzS
    refine zU 21 37 (zM 38 4194303) rfl rfl HT_.out ?_ ?_ ?_;rotate_left
    ·exact zzS
    refine zU 22 38 (zM 38 8388607) rfl rfl HT_.out ?_ ?_ ?_;rotate_left
    ·exact zzS
    refine zU 23 39 (zM 38 16777215) rfl rfl HT_.out ?_ ?_ ?_;rotate_left
    ·exact zzS
    refine zU 24 40 (zM 38 33554431) rfl rfl HT_.out ?_ ?_ ?_;rotate_left
    ·exact zzS
    refine zU 25 41 (zM 38 67108863) rfl rfl HT_.out ?_ ?_ ?_;rotate_left
    ·exact zzS
    refine zU 26 42 (zM 38 134217727) rfl rfl HT_.out ?_ ?_ ?_;rotate_left
    ·exact zzS
    refine zU 27 43 (zM 38 268435455) rfl rfl HT_.out ?_ ?_ ?_;rotate_left
    ·exact zzS
    refine zU 28 44 (zM 38 536870911) rfl rfl HT_.out ?_ ?_ ?_;rotate_left
    ·exact zzS
    refine zU 29 45 (zM 38 1073741823) rfl rfl HT_.out ?_ ?_ ?_;rotate_left
    ·exact zzS
    refine zU 30 46 (zM 38 2147483647) rfl rfl HT_.out ?_ ?_ ?_;rotate_left
    ·exact zzS
    refine zU 31 47 (zM 38 4294967295) rfl rfl HT_.out ?_ ?_ ?_;rotate_left
    ·exact zzS
    refine zU 32 48 (zM 38 8589934591) rfl rfl HT_.out ?_ ?_ ?_;rotate_left
    ·exact zzS
    refine zU 33 49 (zM 38 17179869183) rfl rfl HT_.out ?_ ?_ ?_;rotate_left
    ·exact zzS
    refine zU 34 50 (zM 38 34359738367) rfl rfl HT_.out ?_ ?_ ?_;rotate_left
    ·exact zzS
    refine zU 35 51 (zM 38 68719476735) rfl rfl HT_.out ?_ ?_ ?_;rotate_left
    ·exact zzS
    refine zU 36 52 (zM 38 137438953471) rfl rfl HT_.out ?_ ?_ ?_;rotate_left
    ·exact zzS
    refine zQ 37 53 (zM 38 274877906943) ?_
    refine aH4 (aF8 HT_.out (by kernel_rfl)) ?_;(try go_wp2);go_roundg k1;(case measure=>have:=HK1.out;omega);case rel=>exact⟨(wrap64 (aM+1)),zz6,H',⟨aHl⟩,⟨zz1⟩,⟨aO6⟩⟩
   rw[if_pos c11]at H;have nJ:decide (0<aM)=true:=zdY c11;clear c11;obtain⟨cE,nH⟩:∃ j_:Int,(wrap64 (aM-1))=j_:=⟨_,rfl⟩;(replace H:(if 0<=(cE) then(if(cE)<(aC.length:Int) then(if((aA3 aC aM).f0)<((aA3 aC (cE)).f0) then(some false) else(if((aA3 aC aM).f0)=((aA3 aC (cE)).f0) then(if((aA3 aC aM).f1)<((aA3 aC (cE)).f1) then(some false) else(aAn.l0 k1 aC (aC.length:Int) (wrap64 (aM+1)) aD aC)) else(aAn.l0 k1 aC (aC.length:Int) (wrap64 (aM+1)) aD aC))) else(none)) else(none))=some r:=by first|(rw[nH]at H;exact H)|(simp only[nH]at H ⊢;exact H));have MI:(IntKind.i64.wrap (aM-1))=cE:=(aFm _).trans nH;by_cases c13:0<=(cE);rotate_left
   ·rw[if_neg c13]at H;exact absurd H (by simp)
   rw[if_pos c13]at H;have jU:=zdY c13;clear c13;by_cases c14:(cE)<(aC.length:Int);rotate_left
   ·rw[if_neg c14]at H;exact absurd H (by simp)
   rw[if_pos c14]at H;have kJ:=zdY c14;clear c14;by_cases c15:((aA3 aC aM).f0)<((aA3 aC (cE)).f0)
   ·rw[if_pos c15]at H;have mK:=zdY c15;clear c15;obtain rfl:=zdI H;have aEv:0<=(aM:Int):=zdT zz4;have aEu:aM<(aC.length:Int):=zdT zz4;obtain⟨bX,aH7,aZ,bR⟩:=aDo b3.out aM aEv aEu;cases aH7;replace aZ:=(HB.out.cell (World.block_lt_of_cell? w _ aZ)).trans aZ;replace bR:=(HB.out.cell (World.block_lt_of_cell? w _ bR)).trans bR;replace aEv:=eq_true aEv;replace aEu:=eq_true aEu;(try go_wp2_with (first|((with_reducible refine aAj (N:=4) rfl ?_);refine aAf ?hg (N:=4) ?hd (cs:=#[.int .i64 0,.int .i64 0]) (t:=46) ?hr ?_;(case hd=>rfl);(case hg=>rfl);(case hr=>exact aD9);intro bB hg w16 hbox hb;have n_:=zA7 (aA4 (g:=aE) (o:=.cells #[.int .i64 aD,.slice (some bX) aC.length aG] 25 (0,0)) zz1 hb) (aA1 zz0 hb) hbox (aFw:w.heap.size<=bB) (aFw:w.heap.size<=bB) (aS7:aE≠bB) (aS6:bB≠aE);clear aA HB;obtain⟨aA,HB,bH,aL5,aKb,b7,b9⟩:=n_;clear hb hbox hg;have P0:=b9.out;have OX:=b7.out;have q3:=aCe bH;have qZ:=aCd bH;have qY:=aA0 bH.out 0;have qX:=aA0 bH.out 1)));have n0_:aA2 (((w16.setCell ⟨bB,0,none⟩ (.int .i64 ((aA3 aC aM).f0))).setCell ⟨bB,1,none⟩ (.int .i64 ((aA3 aC aM).f1))).heap[aE]? = some (.cells #[.int .i64 aD,.slice (some bX) aC.length aG] 25 (0,0))):=⟨bAy⟩;have n1_:aA2 (((w16.setCell ⟨bB,0,none⟩ (.int .i64 ((aA3 aC aM).f0))).setCell ⟨bB,1,none⟩ (.int .i64 ((aA3 aC aM).f1))).heap[bB]? = some (.cells #[.int .i64 ((aA3 aC aM).f0),.int .i64 ((aA3 aC aM).f1)] 46 (0,0))):=⟨bIf⟩;have n2_:aA2 (Below w.heap.size w ((w16.setCell ⟨bB,0,none⟩ (.int .i64 ((aA3 aC aM).f0))).setCell ⟨bB,1,none⟩ (.int .i64 ((aA3 aC aM).f1)))):=⟨aO6⟩;(try clear aA);(try clear bH);(try clear HB);generalize ((w16.setCell ⟨bB,0,none⟩ (.int .i64 ((aA3 aC aM).f0))).setCell ⟨bB,1,none⟩ (.int .i64 ((aA3 aC aM).f1)))=w19 at n0_ n1_ n2_ ⊢;have aA:=n0_;have bH:=n1_;have HB:=n2_;clear n0_ n1_ n2_;have n_:=zA3 (aA9 aA.out) (aA9 bH.out) (aAx HB.out);clear aA bH HB;obtain⟨aA,bH,HB⟩:=n_;have aL8:0<=((cE):Int):=zdT zz4;have aL7:(cE)<(aC.length:Int):=zdT zz4;obtain⟨eJ,aWp,cD,dL⟩:=aDo b3.out (cE) aL8 aL7;have hw105_1:=dL;have hw105_0:=cD;obtain rfl:bX=eJ:=(by injection aWp);replace cD:=(HB.out.cell (World.block_lt_of_cell? w _ cD)).trans cD;replace dL:=(HB.out.cell (World.block_lt_of_cell? w _ dL)).trans dL;replace aL8:=eq_true aL8;replace aL7:=eq_true aL7;refine aFp (n:=38) (S:=λw'=>w'.cell? ⟨bB,0,none⟩=some (.int .i64 ((aA3 aC aM).f0))/\w'.cell? ⟨bB,1,none⟩=some (.int .i64 ((aA3 aC aM).f1))/\w'.cell? ⟨aE,0,none⟩=some (.int .i64 aD)/\w'.cell? ⟨aE,1,none⟩=some (.slice (some bX) aC.length aG)/\w'.cell? (bX.add (((cE)).toNat*2))=some (.int .i64 ((aA3 aC (cE)).f0))/\w'.cell? ⟨(bX.add (((cE)).toNat*2)).block,(bX.add (((cE)).toNat*2)).off+1,none⟩=some (.int .i64 ((aA3 aC (cE)).f1))) (ds:=[]) (zM 38 0) (by kernel_rfl) rfl rfl ⟨(aAc bH.out 0).trans rfl,(aAc bH.out 1).trans rfl,(aAc aA.out 0).trans rfl,(aAc aA.out 1).trans rfl,((HB.out.cell (World.block_lt_of_cell? w _ hw105_0)).trans hw105_0),((HB.out.cell (World.block_lt_of_cell? w _ hw105_1)).trans hw105_1)⟩ (λhHeld=>?_);refine aE1 aAn.tab6 aAn.aTm (λHT_ HW_=>?_);generalize w19.drew=w20 at aA bH HB cD dL hHeld ⊢;refine zQ 0 16 (zM 38 1) ?_
    refine zQ 1 17 (zM 38 3) ?_
    refine zQ 2 18 (zM 38 7) ?_
    refine zQ 3 19 (zM 38 15) ?_
    refine zQ 5 21 (zM 38 47) ?_
    refine zQ 7 23 (zM 38 175) ?_
    refine zQ 8 24 (zM 38 431) ?_
    refine aE6 (i:=4) (N:=some 20) (v:=?_) (a':=?_) (zM 38 447) rfl rfl (aC7 HT_.out HW_.out (by kernel_rfl)) (λ_ _ _ h=>h) (Or.inl ⟨by rfl,?_⟩) hHeld ?_ ?_;rotate_left
    ·rintro w' ⟨s0,s1,s2,s3,s4,s5⟩;exact zzT
    rotate_left
    ·exact zzS
    refine aE6 (i:=6) (N:=some 22) (v:=?_) (a':=?_) (zM 38 511) rfl rfl (aC7 HT_.out HW_.out (by kernel_rfl)) (λ_ _ _ h=>h) (Or.inl ⟨by rfl,?_⟩) hHeld ?_ ?_;rotate_left
    ·rintro w' ⟨s0,s1,s2,s3,s4,s5⟩;exact zzT
    rotate_left
    ·exact zzS
    refine zQ 9 25 (zM 38 1023) ?_
    refine zQ 10 26 (zM 38 2047) ?_
    refine aE6 (i:=11) (N:=some 27) (v:=?_) (a':=?_) (zM 38 4095) rfl rfl (aC7 HT_.out HW_.out (by kernel_rfl)) (λ_ _ _ h=>h) (Or.inl ⟨by rfl,?_⟩) hHeld ?_ ?_;rotate_left
    ·rintro w' ⟨s0,s1,s2,s3,s4,s5⟩;exact zzT
    rotate_left
    ·exact zzS
    refine zQ 12 28 (zM 38 8191) ?_
    refine zQ 13 29 (zM 38 16383) ?_
    refine zU 14 30 (zM 38 32767) rfl rfl HT_.out ?_ ?_ ?_;rotate_left
    ·exact zzS
    refine zU 15 31 (zM 38 65535) rfl rfl HT_.out ?_ ?_ ?_;rotate_left
    ·exact zzS
    refine zU 16 32 (zM 38 131071) rfl rfl HT_.out ?_ ?_ ?_;rotate_left
    ·exact zzS
    refine zU 17 33 (zM 38 262143) rfl rfl HT_.out ?_ ?_ ?_;rotate_left
    ·exact zzS
    refine zU 18 34 (zM 38 524287) rfl rfl HT_.out ?_ ?_ ?_;rotate_left
    ·exact zzS
    refine zU 19 35 (zM 38 1048575) rfl rfl HT_.out ?_ ?_ ?_;rotate_left
    ·exact zzS
    refine zU 20 36 (zM 38 2097151) rfl rfl HT_.out ?_ ?_ ?_;rotate_left
    ·exact zzS
    refine zU 21 37 (zM 38 4194303) rfl rfl HT_.out ?_ ?_ ?_;rotate_left
    ·exact zzS
    refine zU 22 38 (zM 38 8388607) rfl rfl HT_.out ?_ ?_ ?_;rotate_left
    ·exact zzS
    refine zU 23 39 (zM 38 16777215) rfl rfl HT_.out ?_ ?_ ?_;rotate_left
    ·exact zzS
    refine zU 24 40 (zM 38 33554431) rfl rfl HT_.out ?_ ?_ ?_;rotate_left
    ·exact zzS
    refine zU 25 41 (zM 38 67108863) rfl rfl HT_.out ?_ ?_ ?_;rotate_left
    ·exact zzS
    refine zU 26 42 (zM 38 134217727) rfl rfl HT_.out ?_ ?_ ?_;rotate_left
    ·exact zzS
    refine zU 27 43 (zM 38 268435455) rfl rfl HT_.out ?_ ?_ ?_;rotate_left
    ·exact zzS
    refine zU 28 44 (zM 38 536870911) rfl rfl HT_.out ?_ ?_ ?_;rotate_left
    ·exact zzS
    refine zU 29 45 (zM 38 1073741823) rfl rfl HT_.out ?_ ?_ ?_;rotate_left
    ·exact zzS
    refine zU 30 46 (zM 38 2147483647) rfl rfl HT_.out ?_ ?_ ?_;rotate_left
    ·exact zzS
    refine zU 31 47 (zM 38 4294967295) rfl rfl HT_.out ?_ ?_ ?_;rotate_left
    ·exact zzS
    refine zU 32 48 (zM 38 8589934591) rfl rfl HT_.out ?_ ?_ ?_;rotate_left
    ·exact zzS
    refine zU 33 49 (zM 38 17179869183) rfl rfl HT_.out ?_ ?_ ?_;rotate_left
    ·exact zzS
    refine zU 34 50 (zM 38 34359738367) rfl rfl HT_.out ?_ ?_ ?_;rotate_left
    ·exact zzS
    refine zU 35 51 (zM 38 68719476735) rfl rfl HT_.out ?_ ?_ ?_;rotate_left
    ·exact zzS
    refine zQ 36 52 (zM 38 137438953471) ?_
    refine zQ 37 53 (zM 38 274877906943) ?_
    refine aH4 (aF8 HT_.out (by kernel_rfl)) ?_;(try go_wp2);go_ret;exact⟨by first|rfl|(simp[aDs,aDr]<;>rfl)|(simp only[<-nH];first|rfl|(simp[aDs,aDr]<;>rfl))|(simp[*,aDs,aDr]<;>rfl),aO6⟩
   rw[if_neg c15]at H;have mK:=zdN c15;clear c15;by_cases c21:((aA3 aC aM).f0)=((aA3 aC (cE)).f0);rotate_left
   ·rw[if_neg c21]at H;have pM:(((aA3 aC aM).f0)==((aA3 aC (cE)).f0))=false:=beq_eq_false_iff_ne.mpr c21;have yW:(((aA3 aC aM).f0) != ((aA3 aC (cE)).f0))=true:=bne_iff_ne.mpr c21;have H':=zK_ H;clear H;have aEv:0<=(aM:Int):=zdT zz4;have aEu:aM<(aC.length:Int):=zdT zz4;obtain⟨bX,aH7,aZ,bR⟩:=aDo b3.out aM aEv aEu;cases aH7;replace aZ:=(HB.out.cell (World.block_lt_of_cell? w _ aZ)).trans aZ;replace bR:=(HB.out.cell (World.block_lt_of_cell? w _ bR)).trans bR;replace aEv:=eq_true aEv;replace aEu:=eq_true aEu;(try go_wp2_with (first|((with_reducible refine aAj (N:=4) rfl ?_);refine aAf ?hg (N:=4) ?hd (cs:=#[.int .i64 0,.int .i64 0]) (t:=46) ?hr ?_;(case hd=>rfl);(case hg=>rfl);(case hr=>exact aD9);intro bB hg w33 hbox hb;have n_:=zA7 (aA4 (g:=aE) (o:=.cells #[.int .i64 aD,.slice (some bX) aC.length aG] 25 (0,0)) zz1 hb) (aA1 zz0 hb) hbox (aFw:w.heap.size<=bB) (aFw:w.heap.size<=bB) (aS7:aE≠bB) (aS6:bB≠aE);clear aA HB;obtain⟨aA,HB,bH,aL5,aKb,b7,b9⟩:=n_;clear hb hbox hg;have yO:=b9.out;have yL:=b7.out;have m8:=aCe bH;have m7:=aCd bH;have mZ:=aA0 bH.out 0;have mY:=aA0 bH.out 1)));have n0_:aA2 (((w33.setCell ⟨bB,0,none⟩ (.int .i64 ((aA3 aC aM).f0))).setCell ⟨bB,1,none⟩ (.int .i64 ((aA3 aC aM).f1))).heap[aE]? = some (.cells #[.int .i64 aD,.slice (some bX) aC.length aG] 25 (0,0))):=⟨bAy⟩;have n1_:aA2 (((w33.setCell ⟨bB,0,none⟩ (.int .i64 ((aA3 aC aM).f0))).setCell ⟨bB,1,none⟩ (.int .i64 ((aA3 aC aM).f1))).heap[bB]? = some (.cells #[.int .i64 ((aA3 aC aM).f0),.int .i64 ((aA3 aC aM).f1)] 46 (0,0))):=⟨bIf⟩;have n2_:aA2 (Below w.heap.size w ((w33.setCell ⟨bB,0,none⟩ (.int .i64 ((aA3 aC aM).f0))).setCell ⟨bB,1,none⟩ (.int .i64 ((aA3 aC aM).f1)))):=⟨aO6⟩;(try clear aA);(try clear bH);(try clear HB);generalize ((w33.setCell ⟨bB,0,none⟩ (.int .i64 ((aA3 aC aM).f0))).setCell ⟨bB,1,none⟩ (.int .i64 ((aA3 aC aM).f1)))=w36 at n0_ n1_ n2_ ⊢;have aA:=n0_;have bH:=n1_;have HB:=n2_;clear n0_ n1_ n2_;have n_:=zA3 (aA9 aA.out) (aA9 bH.out) (aAx HB.out);clear aA bH HB;obtain⟨aA,bH,HB⟩:=n_;have aL8:0<=((cE):Int):=zdT zz4;have aL7:(cE)<(aC.length:Int):=zdT zz4;obtain⟨eJ,aWp,cD,dL⟩:=aDo b3.out (cE) aL8 aL7;have hw105_1:=dL;have hw105_0:=cD;obtain rfl:bX=eJ:=(by injection aWp);replace cD:=(HB.out.cell (World.block_lt_of_cell? w _ cD)).trans cD;replace dL:=(HB.out.cell (World.block_lt_of_cell? w _ dL)).trans dL;replace aL8:=eq_true aL8;replace aL7:=eq_true aL7;have aSu:0<=((cE):Int):=zdT zz4;have aSq:(cE)<(aC.length:Int):=zdT zz4;obtain⟨pV,bGh,eM,fM⟩:=aDo b3.out (cE) aSu aSq;have hw106_1:=fM;have hw106_0:=eM;obtain rfl:bX=pV:=(by injection bGh);replace eM:=(HB.out.cell (World.block_lt_of_cell? w _ eM)).trans eM;replace fM:=(HB.out.cell (World.block_lt_of_cell? w _ fM)).trans fM;replace aSu:=eq_true aSu;replace aSq:=eq_true aSq;refine aFp (n:=38) (S:=λw'=>w'.cell? ⟨bB,0,none⟩=some (.int .i64 ((aA3 aC aM).f0))/\w'.cell? ⟨bB,1,none⟩=some (.int .i64 ((aA3 aC aM).f1))/\w'.cell? ⟨aE,0,none⟩=some (.int .i64 aD)/\w'.cell? ⟨aE,1,none⟩=some (.slice (some bX) aC.length aG)/\w'.cell? (bX.add (((cE)).toNat*2))=some (.int .i64 ((aA3 aC (cE)).f0))/\w'.cell? ⟨(bX.add (((cE)).toNat*2)).block,(bX.add (((cE)).toNat*2)).off+1,none⟩=some (.int .i64 ((aA3 aC (cE)).f1))/\w'.cell? (bX.add (((cE)).toNat*2))=some (.int .i64 ((aA3 aC (cE)).f0))/\w'.cell? ⟨(bX.add (((cE)).toNat*2)).block,(bX.add (((cE)).toNat*2)).off+1,none⟩=some (.int .i64 ((aA3 aC (cE)).f1))) (ds:=[]) (zM 38 0) (by kernel_rfl) rfl rfl ⟨(aAc bH.out 0).trans rfl,(aAc bH.out 1).trans rfl,(aAc aA.out 0).trans rfl,(aAc aA.out 1).trans rfl,((HB.out.cell (World.block_lt_of_cell? w _ hw105_0)).trans hw105_0),((HB.out.cell (World.block_lt_of_cell? w _ hw105_1)).trans hw105_1),((HB.out.cell (World.block_lt_of_cell? w _ hw106_0)).trans hw106_0),((HB.out.cell (World.block_lt_of_cell? w _ hw106_1)).trans hw106_1)⟩ (λhHeld=>?_);refine aE1 aAn.tab6 aAn.aTm (λHT_ HW_=>?_);generalize w36.drew=w37 at aA bH HB cD dL eM fM hHeld ⊢;refine zQ 0 16 (zM 38 1) ?_
    refine zQ 1 17 (zM 38 3) ?_
    refine zQ 2 18 (zM 38 7) ?_
    refine zQ 3 19 (zM 38 15) ?_
    refine zQ 5 21 (zM 38 47) ?_
    refine zQ 7 23 (zM 38 175) ?_
    refine zQ 8 24 (zM 38 431) ?_
    refine aE6 (i:=4) (N:=some 20) (v:=?_) (a':=?_) (zM 38 447) rfl rfl (aC7 HT_.out HW_.out (by kernel_rfl)) (λ_ _ _ h=>h) (Or.inl ⟨by rfl,?_⟩) hHeld ?_ ?_;rotate_left
    ·rintro w' ⟨s0,s1,s2,s3,s4,s5,s6,s7⟩;exact zzT
    rotate_left
    ·exact zzS
    refine aE6 (i:=6) (N:=some 22) (v:=?_) (a':=?_) (zM 38 511) rfl rfl (aC7 HT_.out HW_.out (by kernel_rfl)) (λ_ _ _ h=>h) (Or.inl ⟨by rfl,?_⟩) hHeld ?_ ?_;rotate_left
    ·rintro w' ⟨s0,s1,s2,s3,s4,s5,s6,s7⟩;exact zzT
    rotate_left
    ·exact zzS
    refine zQ 9 25 (zM 38 1023) ?_
    refine zQ 10 26 (zM 38 2047) ?_
    refine aE6 (i:=11) (N:=some 27) (v:=?_) (a':=?_) (zM 38 4095) rfl rfl (aC7 HT_.out HW_.out (by kernel_rfl)) (λ_ _ _ h=>h) (Or.inl ⟨by rfl,?_⟩) hHeld ?_ ?_;rotate_left
    ·rintro w' ⟨s0,s1,s2,s3,s4,s5,s6,s7⟩;exact zzT
    rotate_left
    ·exact zzS
    refine zQ 12 28 (zM 38 8191) ?_
    refine zQ 13 29 (zM 38 16383) ?_
    refine zQ 14 30 (zM 38 32767) ?_
    refine zQ 16 32 (zM 38 98303) ?_
    refine zQ 18 34 (zM 38 360447) ?_
    refine zQ 19 35 (zM 38 884735) ?_
    refine aE6 (i:=15) (N:=some 31) (v:=?_) (a':=?_) (zM 38 917503) rfl rfl (aC7 HT_.out HW_.out (by kernel_rfl)) (λ_ _ _ h=>h) (Or.inl ⟨by rfl,?_⟩) hHeld ?_ ?_;rotate_left
    ·rintro w' ⟨s0,s1,s2,s3,s4,s5,s6,s7⟩;exact zzT
    rotate_left
    ·exact zzS
    refine aE6 (i:=17) (N:=some 33) (v:=?_) (a':=?_) (zM 38 1048575) rfl rfl (aC7 HT_.out HW_.out (by kernel_rfl)) (λ_ _ _ h=>h) (Or.inl ⟨by rfl,?_⟩) hHeld ?_ ?_;rotate_left
    ·rintro w' ⟨s0,s1,s2,s3,s4,s5,s6,s7⟩;exact zzT
    rotate_left
    ·exact zzS
    refine zQ 20 36 (zM 38 2097151) ?_
    refine zQ 21 37 (zM 38 4194303) ?_
    refine aE6 (i:=22) (N:=some 38) (v:=?_) (a':=?_) (zM 38 8388607) rfl rfl (aC7 HT_.out HW_.out (by kernel_rfl)) (λ_ _ _ h=>h) (Or.inl ⟨by rfl,?_⟩) hHeld ?_ ?_;rotate_left
    ·rintro w' ⟨s0,s1,s2,s3,s4,s5,s6,s7⟩;exact zzT
    rotate_left
    ·exact zzS
    refine zQ 23 39 (zM 38 16777215) ?_
    refine zQ 24 40 (zM 38 33554431) ?_
    refine zU 25 41 (zM 38 67108863) rfl rfl HT_.out ?_ ?_ ?_;rotate_left
    ·exact zzS
    refine zU 26 42 (zM 38 134217727) rfl rfl HT_.out ?_ ?_ ?_;rotate_left
    ·exact zzS
    refine zU 27 43 (zM 38 268435455) rfl rfl HT_.out ?_ ?_ ?_;rotate_left
    ·exact zzS
    refine zU 28 44 (zM 38 536870911) rfl rfl HT_.out ?_ ?_ ?_;rotate_left
    ·exact zzS
    refine zU 29 45 (zM 38 1073741823) rfl rfl HT_.out ?_ ?_ ?_;rotate_left
    ·exact zzS
    refine zU 30 46 (zM 38 2147483647) rfl rfl HT_.out ?_ ?_ ?_;rotate_left
    ·exact zzS
    refine zU 31 47 (zM 38 4294967295) rfl rfl HT_.out ?_ ?_ ?_;rotate_left
    ·exact zzS
    refine zU 32 48 (zM 38 8589934591) rfl rfl HT_.out ?_ ?_ ?_;rotate_left
    ·exact zzS
    refine zU 33 49 (zM 38 17179869183) rfl rfl HT_.out ?_ ?_ ?_;rotate_left
    ·exact zzS
    refine zU 34 50 (zM 38 34359738367) rfl rfl HT_.out ?_ ?_ ?_;rotate_left
    ·exact zzS
    refine zQ 35 51 (zM 38 68719476735) ?_
    refine zQ 36 52 (zM 38 137438953471) ?_
    refine zQ 37 53 (zM 38 274877906943) ?_
    refine aH4 (aF8 HT_.out (by kernel_rfl)) ?_;(try go_wp2);go_roundg k1;(case measure=>have:=HK1.out;omega);case rel=>exact⟨(wrap64 (aM+1)),zz6,H',⟨aHl⟩,⟨zz1⟩,⟨aO6⟩⟩
   rw[if_pos c21]at H;have pM:(((aA3 aC aM).f0)==((aA3 aC (cE)).f0))=true:=beq_iff_eq.mpr c21;have yW:(((aA3 aC aM).f0) != ((aA3 aC (cE)).f0))=false:=bne_eq_false_iff_eq.mpr c21;clear c21;by_cases c22:((aA3 aC aM).f1)<((aA3 aC (cE)).f1)
   ·rw[if_pos c22]at H;have pL:=zdY c22;clear c22;obtain rfl:=zdI H;have aEv:0<=(aM:Int):=zdT zz4;have aEu:aM<(aC.length:Int):=zdT zz4;obtain⟨bX,aH7,aZ,bR⟩:=aDo b3.out aM aEv aEu;cases aH7;replace aZ:=(HB.out.cell (World.block_lt_of_cell? w _ aZ)).trans aZ;replace bR:=(HB.out.cell (World.block_lt_of_cell? w _ bR)).trans bR;replace aEv:=eq_true aEv;replace aEu:=eq_true aEu;(try go_wp2_with (first|((with_reducible refine aAj (N:=4) rfl ?_);refine aAf ?hg (N:=4) ?hd (cs:=#[.int .i64 0,.int .i64 0]) (t:=46) ?hr ?_;(case hd=>rfl);(case hg=>rfl);(case hr=>exact aD9);intro bB hg w23 hbox hb;have n_:=zA7 (aA4 (g:=aE) (o:=.cells #[.int .i64 aD,.slice (some bX) aC.length aG] 25 (0,0)) zz1 hb) (aA1 zz0 hb) hbox (aFw:w.heap.size<=bB) (aFw:w.heap.size<=bB) (aS7:aE≠bB) (aS6:bB≠aE);clear aA HB;obtain⟨aA,HB,bH,aL5,aKb,b7,b9⟩:=n_;clear hb hbox hg;have PX:=b9.out;have OU:=b7.out;have i6:=aCe bH;have i5:=aCd bH;have iV:=aA0 bH.out 0;have iU:=aA0 bH.out 1)));have n0_:aA2 (((w23.setCell ⟨bB,0,none⟩ (.int .i64 ((aA3 aC aM).f0))).setCell ⟨bB,1,none⟩ (.int .i64 ((aA3 aC aM).f1))).heap[aE]? = some (.cells #[.int .i64 aD,.slice (some bX) aC.length aG] 25 (0,0))):=⟨bAy⟩;have n1_:aA2 (((w23.setCell ⟨bB,0,none⟩ (.int .i64 ((aA3 aC aM).f0))).setCell ⟨bB,1,none⟩ (.int .i64 ((aA3 aC aM).f1))).heap[bB]? = some (.cells #[.int .i64 ((aA3 aC aM).f0),.int .i64 ((aA3 aC aM).f1)] 46 (0,0))):=⟨bIf⟩;have n2_:aA2 (Below w.heap.size w ((w23.setCell ⟨bB,0,none⟩ (.int .i64 ((aA3 aC aM).f0))).setCell ⟨bB,1,none⟩ (.int .i64 ((aA3 aC aM).f1)))):=⟨aO6⟩;(try clear aA);(try clear bH);(try clear HB);generalize ((w23.setCell ⟨bB,0,none⟩ (.int .i64 ((aA3 aC aM).f0))).setCell ⟨bB,1,none⟩ (.int .i64 ((aA3 aC aM).f1)))=w26 at n0_ n1_ n2_ ⊢;have aA:=n0_;have bH:=n1_;have HB:=n2_;clear n0_ n1_ n2_;have n_:=zA3 (aA9 aA.out) (aA9 bH.out) (aAx HB.out);clear aA bH HB;obtain⟨aA,bH,HB⟩:=n_;have aL8:0<=((cE):Int):=zdT zz4;have aL7:(cE)<(aC.length:Int):=zdT zz4;obtain⟨eJ,aWp,cD,dL⟩:=aDo b3.out (cE) aL8 aL7;have hw105_1:=dL;have hw105_0:=cD;obtain rfl:bX=eJ:=(by injection aWp);replace cD:=(HB.out.cell (World.block_lt_of_cell? w _ cD)).trans cD;replace dL:=(HB.out.cell (World.block_lt_of_cell? w _ dL)).trans dL;replace aL8:=eq_true aL8;replace aL7:=eq_true aL7;have aSu:0<=((cE):Int):=zdT zz4;have aSq:(cE)<(aC.length:Int):=zdT zz4;obtain⟨pV,bGh,eM,fM⟩:=aDo b3.out (cE) aSu aSq;have hw106_1:=fM;have hw106_0:=eM;obtain rfl:bX=pV:=(by injection bGh);replace eM:=(HB.out.cell (World.block_lt_of_cell? w _ eM)).trans eM;replace fM:=(HB.out.cell (World.block_lt_of_cell? w _ fM)).trans fM;replace aSu:=eq_true aSu;replace aSq:=eq_true aSq;have aS0:0<=((cE):Int):=zdT zz4;have aRz:(cE)<(aC.length:Int):=zdT zz4;obtain⟨n9,bGg,d4,jL⟩:=aDo b3.out (cE) aS0 aRz;have hw107_1:=jL;have hw107_0:=d4;obtain rfl:bX=n9:=(by injection bGg);replace d4:=(HB.out.cell (World.block_lt_of_cell? w _ d4)).trans d4;replace jL:=(HB.out.cell (World.block_lt_of_cell? w _ jL)).trans jL;replace aS0:=eq_true aS0;replace aRz:=eq_true aRz;refine aFp (n:=38) (S:=λw'=>w'.cell? ⟨bB,0,none⟩=some (.int .i64 ((aA3 aC aM).f0))/\w'.cell? ⟨bB,1,none⟩=some (.int .i64 ((aA3 aC aM).f1))/\w'.cell? ⟨aE,0,none⟩=some (.int .i64 aD)/\w'.cell? ⟨aE,1,none⟩=some (.slice (some bX) aC.length aG)/\w'.cell? (bX.add (((cE)).toNat*2))=some (.int .i64 ((aA3 aC (cE)).f0))/\w'.cell? ⟨(bX.add (((cE)).toNat*2)).block,(bX.add (((cE)).toNat*2)).off+1,none⟩=some (.int .i64 ((aA3 aC (cE)).f1))/\w'.cell? (bX.add (((cE)).toNat*2))=some (.int .i64 ((aA3 aC (cE)).f0))/\w'.cell? ⟨(bX.add (((cE)).toNat*2)).block,(bX.add (((cE)).toNat*2)).off+1,none⟩=some (.int .i64 ((aA3 aC (cE)).f1))/\w'.cell? (bX.add (((cE)).toNat*2))=some (.int .i64 ((aA3 aC (cE)).f0))/\w'.cell? ⟨(bX.add (((cE)).toNat*2)).block,(bX.add (((cE)).toNat*2)).off+1,none⟩=some (.int .i64 ((aA3 aC (cE)).f1))) (ds:=[]) (zM 38 0) (by kernel_rfl) rfl rfl ⟨(aAc bH.out 0).trans rfl,(aAc bH.out 1).trans rfl,(aAc aA.out 0).trans rfl,(aAc aA.out 1).trans rfl,((HB.out.cell (World.block_lt_of_cell? w _ hw105_0)).trans hw105_0),((HB.out.cell (World.block_lt_of_cell? w _ hw105_1)).trans hw105_1),((HB.out.cell (World.block_lt_of_cell? w _ hw106_0)).trans hw106_0),((HB.out.cell (World.block_lt_of_cell? w _ hw106_1)).trans hw106_1),((HB.out.cell (World.block_lt_of_cell? w _ hw107_0)).trans hw107_0),((HB.out.cell (World.block_lt_of_cell? w _ hw107_1)).trans hw107_1)⟩ (λhHeld=>?_);refine aE1 aAn.tab6 aAn.aTm (λHT_ HW_=>?_);generalize w26.drew=w27 at aA bH HB cD dL eM fM d4 jL hHeld ⊢;refine zQ 0 16 (zM 38 1) ?_
    refine zQ 1 17 (zM 38 3) ?_
    refine zQ 2 18 (zM 38 7) ?_
    refine zQ 3 19 (zM 38 15) ?_
    refine zQ 5 21 (zM 38 47) ?_
    refine zQ 7 23 (zM 38 175) ?_
    refine zQ 8 24 (zM 38 431) ?_
    refine aE6 (i:=4) (N:=some 20) (v:=?_) (a':=?_) (zM 38 447) rfl rfl (aC7 HT_.out HW_.out (by kernel_rfl)) (λ_ _ _ h=>h) (Or.inl ⟨by rfl,?_⟩) hHeld ?_ ?_;rotate_left
    ·rintro w' ⟨s0,s1,s2,s3,s4,s5,s6,s7,s8,s9⟩;exact zzT
    rotate_left
    ·exact zzS
    refine aE6 (i:=6) (N:=some 22) (v:=?_) (a':=?_) (zM 38 511) rfl rfl (aC7 HT_.out HW_.out (by kernel_rfl)) (λ_ _ _ h=>h) (Or.inl ⟨by rfl,?_⟩) hHeld ?_ ?_;rotate_left
    ·rintro w' ⟨s0,s1,s2,s3,s4,s5,s6,s7,s8,s9⟩;exact zzT
    rotate_left
    ·exact zzS
    refine zQ 9 25 (zM 38 1023) ?_
    refine zQ 10 26 (zM 38 2047) ?_
    refine aE6 (i:=11) (N:=some 27) (v:=?_) (a':=?_) (zM 38 4095) rfl rfl (aC7 HT_.out HW_.out (by kernel_rfl)) (λ_ _ _ h=>h) (Or.inl ⟨by rfl,?_⟩) hHeld ?_ ?_;rotate_left
    ·rintro w' ⟨s0,s1,s2,s3,s4,s5,s6,s7,s8,s9⟩;exact zzT
    rotate_left
    ·exact zzS
    refine zQ 12 28 (zM 38 8191) ?_
    refine zQ 13 29 (zM 38 16383) ?_
    refine zQ 14 30 (zM 38 32767) ?_
    refine zQ 16 32 (zM 38 98303) ?_
    refine zQ 18 34 (zM 38 360447) ?_
    refine zQ 19 35 (zM 38 884735) ?_
    refine aE6 (i:=15) (N:=some 31) (v:=?_) (a':=?_) (zM 38 917503) rfl rfl (aC7 HT_.out HW_.out (by kernel_rfl)) (λ_ _ _ h=>h) (Or.inl ⟨by rfl,?_⟩) hHeld ?_ ?_;rotate_left
    ·rintro w' ⟨s0,s1,s2,s3,s4,s5,s6,s7,s8,s9⟩;exact zzT
    rotate_left
    ·exact zzS
    refine aE6 (i:=17) (N:=some 33) (v:=?_) (a':=?_) (zM 38 1048575) rfl rfl (aC7 HT_.out HW_.out (by kernel_rfl)) (λ_ _ _ h=>h) (Or.inl ⟨by rfl,?_⟩) hHeld ?_ ?_;rotate_left
    ·rintro w' ⟨s0,s1,s2,s3,s4,s5,s6,s7,s8,s9⟩;exact zzT
    rotate_left
    ·exact zzS
    refine zQ 20 36 (zM 38 2097151) ?_
    refine zQ 21 37 (zM 38 4194303) ?_
    refine aE6 (i:=22) (N:=some 38) (v:=?_) (a':=?_) (zM 38 8388607) rfl rfl (aC7 HT_.out HW_.out (by kernel_rfl)) (λ_ _ _ h=>h) (Or.inl ⟨by rfl,?_⟩) hHeld ?_ ?_;rotate_left
    ·rintro w' ⟨s0,s1,s2,s3,s4,s5,s6,s7,s8,s9⟩;exact zzT
    rotate_left
    ·exact zzS
    refine zQ 23 39 (zM 38 16777215) ?_
    refine zQ 24 40 (zM 38 33554431) ?_
    refine zQ 25 41 (zM 38 67108863) ?_
    refine zQ 27 43 (zM 38 201326591) ?_
    refine zQ 29 45 (zM 38 738197503) ?_
    refine zQ 30 46 (zM 38 1811939327) ?_
    refine aE6 (i:=26) (N:=some 42) (v:=?_) (a':=?_) (zM 38 1879048191) rfl rfl (aC7 HT_.out HW_.out (by kernel_rfl)) (λ_ _ _ h=>h) (Or.inl ⟨by rfl,?_⟩) hHeld ?_ ?_;rotate_left
    ·rintro w' ⟨s0,s1,s2,s3,s4,s5,s6,s7,s8,s9⟩;exact zzT
    rotate_left
    ·exact zzS
    refine aE6 (i:=28) (N:=some 44) (v:=?_) (a':=?_) (zM 38 2147483647) rfl rfl (aC7 HT_.out HW_.out (by kernel_rfl)) (λ_ _ _ h=>h) (Or.inl ⟨by rfl,?_⟩) hHeld ?_ ?_;rotate_left
    ·rintro w' ⟨s0,s1,s2,s3,s4,s5,s6,s7,s8,s9⟩;exact zzT
    rotate_left
    ·exact zzS
    refine zQ 31 47 (zM 38 4294967295) ?_
    refine zQ 32 48 (zM 38 8589934591) ?_
    refine aE6 (i:=33) (N:=some 49) (v:=?_) (a':=?_) (zM 38 17179869183) rfl rfl (aC7 HT_.out HW_.out (by kernel_rfl)) (λ_ _ _ h=>h) (Or.inl ⟨by rfl,?_⟩) hHeld ?_ ?_;rotate_left
    ·rintro w' ⟨s0,s1,s2,s3,s4,s5,s6,s7,s8,s9⟩;exact zzT
    rotate_left
    ·exact zzS
    refine zQ 34 50 (zM 38 34359738367) ?_
    refine zQ 35 51 (zM 38 68719476735) ?_
    refine zQ 36 52 (zM 38 137438953471) ?_
    refine zQ 37 53 (zM 38 274877906943) ?_
    refine aH4 (aF8 HT_.out (by kernel_rfl)) ?_;(try go_wp2);go_ret;exact⟨by first|rfl|(simp[aDs,aDr]<;>rfl)|(simp only[<-nH];first|rfl|(simp[aDs,aDr]<;>rfl))|(simp[*,aDs,aDr]<;>rfl),aO6⟩
   rw[if_neg c22]at H;have pL:=zdN c22;clear c22;have H':=zK_ H;clear H;have aEv:0<=(aM:Int):=zdT zz4;have aEu:aM<(aC.length:Int):=zdT zz4;obtain⟨bX,aH7,aZ,bR⟩:=aDo b3.out aM aEv aEu;cases aH7;replace aZ:=(HB.out.cell (World.block_lt_of_cell? w _ aZ)).trans aZ;replace bR:=(HB.out.cell (World.block_lt_of_cell? w _ bR)).trans bR;replace aEv:=eq_true aEv;replace aEu:=eq_true aEu;(try go_wp2_with (first|((with_reducible refine aAj (N:=4) rfl ?_);refine aAf ?hg (N:=4) ?hd (cs:=#[.int .i64 0,.int .i64 0]) (t:=46) ?hr ?_;(case hd=>rfl);(case hg=>rfl);(case hr=>exact aD9);intro bB hg w28 hbox hb;have n_:=zA7 (aA4 (g:=aE) (o:=.cells #[.int .i64 aD,.slice (some bX) aC.length aG] 25 (0,0)) zz1 hb) (aA1 zz0 hb) hbox (aFw:w.heap.size<=bB) (aFw:w.heap.size<=bB) (aS7:aE≠bB) (aS6:bB≠aE);clear aA HB;obtain⟨aA,HB,bH,aL5,aKb,b7,b9⟩:=n_;clear hb hbox hg;have BV:=b9.out;have BE:=b7.out;have n0:=aCe bH;have nZ:=aCd bH;have nU:=aA0 bH.out 0;have nT:=aA0 bH.out 1)));have n0_:aA2 (((w28.setCell ⟨bB,0,none⟩ (.int .i64 ((aA3 aC aM).f0))).setCell ⟨bB,1,none⟩ (.int .i64 ((aA3 aC aM).f1))).heap[aE]? = some (.cells #[.int .i64 aD,.slice (some bX) aC.length aG] 25 (0,0))):=⟨bAy⟩;have n1_:aA2 (((w28.setCell ⟨bB,0,none⟩ (.int .i64 ((aA3 aC aM).f0))).setCell ⟨bB,1,none⟩ (.int .i64 ((aA3 aC aM).f1))).heap[bB]? = some (.cells #[.int .i64 ((aA3 aC aM).f0),.int .i64 ((aA3 aC aM).f1)] 46 (0,0))):=⟨bIf⟩;have n2_:aA2 (Below w.heap.size w ((w28.setCell ⟨bB,0,none⟩ (.int .i64 ((aA3 aC aM).f0))).setCell ⟨bB,1,none⟩ (.int .i64 ((aA3 aC aM).f1)))):=⟨aO6⟩;(try clear aA);(try clear bH);(try clear HB);generalize ((w28.setCell ⟨bB,0,none⟩ (.int .i64 ((aA3 aC aM).f0))).setCell ⟨bB,1,none⟩ (.int .i64 ((aA3 aC aM).f1)))=w31 at n0_ n1_ n2_ ⊢;have aA:=n0_;have bH:=n1_;have HB:=n2_;clear n0_ n1_ n2_;have n_:=zA3 (aA9 aA.out) (aA9 bH.out) (aAx HB.out);clear aA bH HB;obtain⟨aA,bH,HB⟩:=n_;have aL8:0<=((cE):Int):=zdT zz4;have aL7:(cE)<(aC.length:Int):=zdT zz4;obtain⟨eJ,aWp,cD,dL⟩:=aDo b3.out (cE) aL8 aL7;have hw105_1:=dL;have hw105_0:=cD;obtain rfl:bX=eJ:=(by injection aWp);replace cD:=(HB.out.cell (World.block_lt_of_cell? w _ cD)).trans cD;replace dL:=(HB.out.cell (World.block_lt_of_cell? w _ dL)).trans dL;replace aL8:=eq_true aL8;replace aL7:=eq_true aL7;have aSu:0<=((cE):Int):=zdT zz4;have aSq:(cE)<(aC.length:Int):=zdT zz4;obtain⟨pV,bGh,eM,fM⟩:=aDo b3.out (cE) aSu aSq;have hw106_1:=fM;have hw106_0:=eM;obtain rfl:bX=pV:=(by injection bGh);replace eM:=(HB.out.cell (World.block_lt_of_cell? w _ eM)).trans eM;replace fM:=(HB.out.cell (World.block_lt_of_cell? w _ fM)).trans fM;replace aSu:=eq_true aSu;replace aSq:=eq_true aSq;have aS0:0<=((cE):Int):=zdT zz4;have aRz:(cE)<(aC.length:Int):=zdT zz4;obtain⟨n9,bGg,d4,jL⟩:=aDo b3.out (cE) aS0 aRz;have hw107_1:=jL;have hw107_0:=d4;obtain rfl:bX=n9:=(by injection bGg);replace d4:=(HB.out.cell (World.block_lt_of_cell? w _ d4)).trans d4;replace jL:=(HB.out.cell (World.block_lt_of_cell? w _ jL)).trans jL;replace aS0:=eq_true aS0;replace aRz:=eq_true aRz;refine aFp (n:=38) (S:=λw'=>w'.cell? ⟨bB,0,none⟩=some (.int .i64 ((aA3 aC aM).f0))/\w'.cell? ⟨bB,1,none⟩=some (.int .i64 ((aA3 aC aM).f1))/\w'.cell? ⟨aE,0,none⟩=some (.int .i64 aD)/\w'.cell? ⟨aE,1,none⟩=some (.slice (some bX) aC.length aG)/\w'.cell? (bX.add (((cE)).toNat*2))=some (.int .i64 ((aA3 aC (cE)).f0))/\w'.cell? ⟨(bX.add (((cE)).toNat*2)).block,(bX.add (((cE)).toNat*2)).off+1,none⟩=some (.int .i64 ((aA3 aC (cE)).f1))/\w'.cell? (bX.add (((cE)).toNat*2))=some (.int .i64 ((aA3 aC (cE)).f0))/\w'.cell? ⟨(bX.add (((cE)).toNat*2)).block,(bX.add (((cE)).toNat*2)).off+1,none⟩=some (.int .i64 ((aA3 aC (cE)).f1))/\w'.cell? (bX.add (((cE)).toNat*2))=some (.int .i64 ((aA3 aC (cE)).f0))/\w'.cell? ⟨(bX.add (((cE)).toNat*2)).block,(bX.add (((cE)).toNat*2)).off+1,none⟩=some (.int .i64 ((aA3 aC (cE)).f1))) (ds:=[]) (zM 38 0) (by kernel_rfl) rfl rfl ⟨(aAc bH.out 0).trans rfl,(aAc bH.out 1).trans rfl,(aAc aA.out 0).trans rfl,(aAc aA.out 1).trans rfl,((HB.out.cell (World.block_lt_of_cell? w _ hw105_0)).trans hw105_0),((HB.out.cell (World.block_lt_of_cell? w _ hw105_1)).trans hw105_1),((HB.out.cell (World.block_lt_of_cell? w _ hw106_0)).trans hw106_0),((HB.out.cell (World.block_lt_of_cell? w _ hw106_1)).trans hw106_1),((HB.out.cell (World.block_lt_of_cell? w _ hw107_0)).trans hw107_0),((HB.out.cell (World.block_lt_of_cell? w _ hw107_1)).trans hw107_1)⟩ (λhHeld=>?_);refine aE1 aAn.tab6 aAn.aTm (λHT_ HW_=>?_);generalize w31.drew=w32 at aA bH HB cD dL eM fM d4 jL hHeld ⊢;refine zQ 0 16 (zM 38 1) ?_
   refine zQ 1 17 (zM 38 3) ?_
   refine zQ 2 18 (zM 38 7) ?_
   refine zQ 3 19 (zM 38 15) ?_
   refine zQ 5 21 (zM 38 47) ?_
   refine zQ 7 23 (zM 38 175) ?_
   refine zQ 8 24 (zM 38 431) ?_
   refine aE6 (i:=4) (N:=some 20) (v:=?_) (a':=?_) (zM 38 447) rfl rfl (aC7 HT_.out HW_.out (by kernel_rfl)) (λ_ _ _ h=>h) (Or.inl ⟨by rfl,?_⟩) hHeld ?_ ?_;rotate_left
   ·rintro w' ⟨s0,s1,s2,s3,s4,s5,s6,s7,s8,s9⟩;exact zzT
   rotate_left
   ·exact zzS
   refine aE6 (i:=6) (N:=some 22) (v:=?_) (a':=?_) (zM 38 511) rfl rfl (aC7 HT_.out HW_.out (by kernel_rfl)) (λ_ _ _ h=>h) (Or.inl ⟨by rfl,?_⟩) hHeld ?_ ?_;rotate_left
   ·rintro w' ⟨s0,s1,s2,s3,s4,s5,s6,s7,s8,s9⟩;exact zzT
   rotate_left
   ·exact zzS
   refine zQ 9 25 (zM 38 1023) ?_
   refine zQ 10 26 (zM 38 2047) ?_
   refine aE6 (i:=11) (N:=some 27) (v:=?_) (a':=?_) (zM 38 4095) rfl rfl (aC7 HT_.out HW_.out (by kernel_rfl)) (λ_ _ _ h=>h) (Or.inl ⟨by rfl,?_⟩) hHeld ?_ ?_;rotate_left
   ·rintro w' ⟨s0,s1,s2,s3,s4,s5,s6,s7,s8,s9⟩;exact zzT
   rotate_left
   ·exact zzS
   refine zQ 12 28 (zM 38 8191) ?_
   refine zQ 13 29 (zM 38 16383) ?_
   refine zQ 14 30 (zM 38 32767) ?_
   refine zQ 16 32 (zM 38 98303) ?_
   refine zQ 18 34 (zM 38 360447) ?_
   refine zQ 19 35 (zM 38 884735) ?_
   refine aE6 (i:=15) (N:=some 31) (v:=?_) (a':=?_) (zM 38 917503) rfl rfl (aC7 HT_.out HW_.out (by kernel_rfl)) (λ_ _ _ h=>h) (Or.inl ⟨by rfl,?_⟩) hHeld ?_ ?_;rotate_left
   ·rintro w' ⟨s0,s1,s2,s3,s4,s5,s6,s7,s8,s9⟩;exact zzT
   rotate_left
   ·exact zzS
   refine aE6 (i:=17) (N:=some 33) (v:=?_) (a':=?_) (zM 38 1048575) rfl rfl (aC7 HT_.out HW_.out (by kernel_rfl)) (λ_ _ _ h=>h) (Or.inl ⟨by rfl,?_⟩) hHeld ?_ ?_;rotate_left
   ·rintro w' ⟨s0,s1,s2,s3,s4,s5,s6,s7,s8,s9⟩;exact zzT
   rotate_left
   ·exact zzS
   refine zQ 20 36 (zM 38 2097151) ?_
   refine zQ 21 37 (zM 38 4194303) ?_
   refine aE6 (i:=22) (N:=some 38) (v:=?_) (a':=?_) (zM 38 8388607) rfl rfl (aC7 HT_.out HW_.out (by kernel_rfl)) (λ_ _ _ h=>h) (Or.inl ⟨by rfl,?_⟩) hHeld ?_ ?_;rotate_left
   ·rintro w' ⟨s0,s1,s2,s3,s4,s5,s6,s7,s8,s9⟩;exact zzT
   rotate_left
   ·exact zzS
   refine zQ 23 39 (zM 38 16777215) ?_
   refine zQ 24 40 (zM 38 33554431) ?_
   refine zQ 25 41 (zM 38 67108863) ?_
   refine zQ 27 43 (zM 38 201326591) ?_
   refine zQ 29 45 (zM 38 738197503) ?_
   refine zQ 30 46 (zM 38 1811939327) ?_
   refine aE6 (i:=26) (N:=some 42) (v:=?_) (a':=?_) (zM 38 1879048191) rfl rfl (aC7 HT_.out HW_.out (by kernel_rfl)) (λ_ _ _ h=>h) (Or.inl ⟨by rfl,?_⟩) hHeld ?_ ?_;rotate_left
   ·rintro w' ⟨s0,s1,s2,s3,s4,s5,s6,s7,s8,s9⟩;exact zzT
   rotate_left
   ·exact zzS
   refine aE6 (i:=28) (N:=some 44) (v:=?_) (a':=?_) (zM 38 2147483647) rfl rfl (aC7 HT_.out HW_.out (by kernel_rfl)) (λ_ _ _ h=>h) (Or.inl ⟨by rfl,?_⟩) hHeld ?_ ?_;rotate_left
   ·rintro w' ⟨s0,s1,s2,s3,s4,s5,s6,s7,s8,s9⟩;exact zzT
   rotate_left
   ·exact zzS
   refine zQ 31 47 (zM 38 4294967295) ?_
   refine zQ 32 48 (zM 38 8589934591) ?_
   refine aE6 (i:=33) (N:=some 49) (v:=?_) (a':=?_) (zM 38 17179869183) rfl rfl (aC7 HT_.out HW_.out (by kernel_rfl)) (λ_ _ _ h=>h) (Or.inl ⟨by rfl,?_⟩) hHeld ?_ ?_;rotate_left
   ·rintro w' ⟨s0,s1,s2,s3,s4,s5,s6,s7,s8,s9⟩;exact zzT
   rotate_left
   ·exact zzS
   refine zQ 34 50 (zM 38 34359738367) ?_
   refine zQ 35 51 (zM 38 68719476735) ?_
   refine zQ 36 52 (zM 38 137438953471) ?_
   refine zQ 37 53 (zM 38 274877906943) ?_
   refine aH4 (aF8 HT_.out (by kernel_rfl)) ?_;(try go_wp2);go_roundg k1;(case measure=>have:=HK1.out;omega);case rel=>exact⟨(wrap64 (aM+1)),zz6,H',⟨aHl⟩,⟨zz1⟩,⟨aO6⟩⟩
end P
end Go.Proofs.YtnbljcgdgblgoaaGreat
