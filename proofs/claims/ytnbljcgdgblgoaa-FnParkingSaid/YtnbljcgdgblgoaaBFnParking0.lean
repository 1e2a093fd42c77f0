/- A part of the proof of FnParking. -/
import Derived.Test.YtnbljcgdgblgoaaProg
import Derived.Below
import Derived.Deep.Draws
import Derived.Deep.AppendLies
import Derived.Maps.AppendAt
import Derived.OwnWalk
import Derived.Laws.BytesArg
import Derived.Laws.MakeOwn
import Derived.Laws.OwnMore
import Derived.Deep.OwnRows
import Derived.Tactics
import Derived.Lib.ConvBytes
import Derived.Laws.Slices
import Derived.WalkKit
import Derived.KernelRfl
import Derived.RowKit3
import Derived.Deep.LoopGhost
import Derived.Deep.QuietTactic
import Derived.BigQuiet
import Derived.WideLaws
import Derived.Deep.DeepCutAuto
import Derived.Deep.CutBlock
import Derived.Deep.RegionHeld3
import Derived.Laws.Rows
import Derived.Lib.AppendStr
import Derived.ArgAppend
import Derived.Laws.IdiomCopy
import Derived.OrdersHeld
import Derived.Laws.BitsLemmas
import Derived.RowKit
import Derived.Test.YtnbljcgdgblgoaaBFnParkingWWords
import Derived.Test.YtnbljcgdgblgoaaBFnParkingWLast
import Derived.Test.YtnbljcgdgblgoaaBFnParkingWTab
import Derived.Test.YtnbljcgdgblgoaaBFnParkingWApart
import Derived.Test.YtnbljcgdgblgoaaBFnParkingWArr
import Derived.Test.YtnbljcgdgblgoaaBFnParkingWFoot
import Derived.Test.YtnbljcgdgblgoaaBFnParkingWKept
import Derived.Test.YtnbljcgdgblgoaaBFnParkingWShare
import Derived.Test.YtnbljcgdgblgoaaBFnParkingWN
import Derived.Laws.StructEq
import Derived.Test.YtnbljcgdgblgoaaBFnParkingWRepsOne
import Derived.Test.YtnbljcgdgblgoaaBFnParkingWInv
import Derived.Test.YtnbljcgdgblgoaaBFnParkingWGuard
import Derived.Test.YtnbljcgdgblgoaaBFnParkingWNEv
import Derived.Test.YtnbljcgdgblgoaaBFnParkingWMore
set_option linter.unusedVariables false
set_option linter.unusedSimpArgs false
set_option maxHeartbeats 8000000
set_option maxRecDepth 100000
section
namespace Go.Proofs.Ytnbljcgdgblgoaa.Cf
structure E where
 f0:Int
 f1:Int
 deriving DecidableEq
end Go.Proofs.Ytnbljcgdgblgoaa.Cf
end
section
namespace Go.Proofs.Ytnbljcgdgblgoaa.P
open Go.RowKit Go.Proofs.YtnbljcgdgblgoaaW.PrintWords Go.Proofs.YtnbljcgdgblgoaaW.PrintLast Go.Proofs.YtnbljcgdgblgoaaW.PrintMore
attribute [local go_sem] aCt aCr aDb aDa aCa aC9 aCs aCq
def aZn:Option Int→Value
 | none=>.nilIface
 | some c=>.iface 0 (.int .i64 c)
theorem aCm:aZn none = .nilIface:=rfl
theorem aCl (c:Int):aZn (some c) = .iface 0 (.int .i64 c):=rfl
theorem aDz:(Try.prog.info? 3).map (fun i=>(i.zero,i.size,i.bytes))=some (some (.int .i64 0),1,8):=by kernel_rfl
theorem aXa:(Try.prog.info? 4).map (fun i=>(i.zero,i.size,i.bytes))=some (some (.bool false),1,1):=by kernel_rfl
theorem aGh:(Try.prog.info? 26).map (fun i=>(i.zero,i.size,i.bytes))=some (some (.slice none 0 0),1,24):=by kernel_rfl
theorem aFk:(Try.prog.info? 57).map (fun i=>(i.zero,i.size,i.bytes))=some (some (.agg #[(.int .i64 0),(.int .i64 0)]),2,16):=by kernel_rfl
abbrev S57:=Go.Proofs.Ytnbljcgdgblgoaa.Cf.E
def z57:S57:=⟨(0:Int),(0:Int)⟩
def k57:Kd S57:=Kd.iso (Kd.pair (Kd.int .i64) (Kd.int .i64)) (fun x:S57=>(x.f0,x.f1))
theorem aSa {w:World} {x:S57} {cs:List Value} (h:k57.K w x cs):cs=[.int .i64 x.f0,.int .i64 x.f1]:=by
 obtain⟨_,_,rfl,rfl,rfl⟩:=h
 exact rfl
theorem aEf (w:World) (base:Nat) (ok:Nat→Prop) (x:S57) :k57.M w base ok x [.int .i64 x.f0,.int .i64 x.f1]:=⟨[.int .i64 x.f0],[.int .i64 x.f1],rfl,rfl,rfl⟩
def aA4 (xs:List S57) (i:Int):S57:=xs.getD i.toNat z57
theorem aCo {w:World} {A:Option Addr} {n:Nat} {xs:List S57} (h:Kd.C k57 w A n xs) (i:Int) (h0:0≤i) (h1:i<n):∃ ad ,A=some ad∧w.cell? (ad.add (i.toNat*2))=some (.int .i64 (aA4 xs i).f0)∧w.cell? ⟨(ad.add (i.toNat*2)).block,(ad.add (i.toNat*2)).off+1,none⟩=some (.int .i64 (aA4 xs i).f1):=by
 obtain⟨ad,c,e,_,hK,hc0⟩:=Kd.C_get h z57 i h0 h1
 have hc:∀ j u,c[j]? = some u→w.cell? (ad.add (i.toNat*2+j))=some u:=hc0
 obtain rfl:=aSa hK
 exact⟨ad,e,hc 0 _ rfl,by rw[← aR0 _ _ 1 (by omega)];exact hc 1 _ rfl⟩
def aBp (xs:List (List Int)) (i:Int):(List Int):=xs.getD i.toNat ([]:List Int)
theorem aG4 {w:World} {A:Option Addr} {n:Nat} {xs:List (List Int)} (h:Kd.C (Kd.slice 3 (Kd.int .i64)) w A n xs) (i:Int) (h0:0≤i) (h1:i<n):∃ ad A0 c0,A=some ad∧w.cell? (ad.add i.toNat)=some (.slice A0 (aBp xs i).length c0)∧(aBp xs i).length≤c0∧(Kd.int .i64).C w A0 (aBp xs i).length (aBp xs i):=by
 obtain⟨ad,c,e,_,hK,hc0⟩:=Kd.C_get h ([]:List Int) i h0 h1
 have hc:∀ j u,c[j]? = some u→w.cell? (ad.add (i.toNat*1+j))=some u:=hc0
 obtain⟨A0,c0,rfl,l0,g0⟩:=hK
 exact⟨ad,A0,c0,e,by have hq:=hc 0 _ rfl;rwa[Nat.mul_one,Nat.add_zero]at hq,l0,g0⟩
end Go.Proofs.Ytnbljcgdgblgoaa.P
end
section
namespace Go.Proofs.Ytnbljcgdgblgoaa.P
open Go.RowKit Go.Proofs.YtnbljcgdgblgoaaW.PrintWords Go.Proofs.YtnbljcgdgblgoaaW.PrintLast
theorem zO_ {α β:Type} {x:Option α} {f:α→Option β} {b:β} (h:x.bind f=some b):∃ a,x=some a∧f a=some b:=Option.bind_eq_some_iff.mp h
theorem zK_ {p:Prop} (h:p):Aside0 p:=⟨h⟩
theorem zA2 {p0 p1:Prop} (h0:p0) (h1:p1):Aside0 p0∧Aside0 p1:=⟨⟨h0⟩,⟨h1⟩⟩
theorem zA3 {p0 p1 p2:Prop} (h0:p0) (h1:p1) (h2:p2):Aside0 p0∧Aside0 p1∧Aside0 p2:=⟨⟨h0⟩,⟨h1⟩,⟨h2⟩⟩
theorem zA4 {p0 p1 p2 p3:Prop} (h0:p0) (h1:p1) (h2:p2) (h3:p3):Aside0 p0∧Aside0 p1∧Aside0 p2∧Aside0 p3:=⟨⟨h0⟩,⟨h1⟩,⟨h2⟩,⟨h3⟩⟩
theorem zA5 {p0 p1 p2 p3 p4:Prop} (h0:p0) (h1:p1) (h2:p2) (h3:p3) (h4:p4):Aside0 p0∧Aside0 p1∧Aside0 p2∧Aside0 p3∧Aside0 p4:=⟨⟨h0⟩,⟨h1⟩,⟨h2⟩,⟨h3⟩,⟨h4⟩⟩
theorem zA6 {p0 p1 p2 p3 p4 p5:Prop} (h0:p0) (h1:p1) (h2:p2) (h3:p3) (h4:p4) (h5:p5):Aside0 p0∧Aside0 p1∧Aside0 p2∧Aside0 p3∧Aside0 p4∧Aside0 p5:=⟨⟨h0⟩,⟨h1⟩,⟨h2⟩,⟨h3⟩,⟨h4⟩,⟨h5⟩⟩
theorem zA7 {p0 p1 p2 p3 p4 p5 p6:Prop} (h0:p0) (h1:p1) (h2:p2) (h3:p3) (h4:p4) (h5:p5) (h6:p6):Aside0 p0∧Aside0 p1∧Aside0 p2∧Aside0 p3∧Aside0 p4∧Aside0 p5∧Aside0 p6:=⟨⟨h0⟩,⟨h1⟩,⟨h2⟩,⟨h3⟩,⟨h4⟩,⟨h5⟩,⟨h6⟩⟩
theorem zA8 {p0 p1 p2 p3 p4 p5 p6 p7:Prop} (h0:p0) (h1:p1) (h2:p2) (h3:p3) (h4:p4) (h5:p5) (h6:p6) (h7:p7):Aside0 p0∧Aside0 p1∧Aside0 p2∧Aside0 p3∧Aside0 p4∧Aside0 p5∧Aside0 p6∧Aside0 p7:=⟨⟨h0⟩,⟨h1⟩,⟨h2⟩,⟨h3⟩,⟨h4⟩,⟨h5⟩,⟨h6⟩,⟨h7⟩⟩
theorem zA9 {p0 p1 p2 p3 p4 p5 p6 p7 p8:Prop} (h0:p0) (h1:p1) (h2:p2) (h3:p3) (h4:p4) (h5:p5) (h6:p6) (h7:p7) (h8:p8):Aside0 p0∧Aside0 p1∧Aside0 p2∧Aside0 p3∧Aside0 p4∧Aside0 p5∧Aside0 p6∧Aside0 p7∧Aside0 p8:=⟨⟨h0⟩,⟨h1⟩,⟨h2⟩,⟨h3⟩,⟨h4⟩,⟨h5⟩,⟨h6⟩,⟨h7⟩,⟨h8⟩⟩
theorem aWs {p0 p1 p2 p3 p4 p5 p6 p7 p8 p9:Prop} (h0:p0) (h1:p1) (h2:p2) (h3:p3) (h4:p4) (h5:p5) (h6:p6) (h7:p7) (h8:p8) (h9:p9):Aside0 p0∧Aside0 p1∧Aside0 p2∧Aside0 p3∧Aside0 p4∧Aside0 p5∧Aside0 p6∧Aside0 p7∧Aside0 p8∧Aside0 p9:=⟨⟨h0⟩,⟨h1⟩,⟨h2⟩,⟨h3⟩,⟨h4⟩,⟨h5⟩,⟨h6⟩,⟨h7⟩,⟨h8⟩,⟨h9⟩⟩
theorem aYx {p0 p1 p2 p3 p4 p5 p6 p7 p8 p9 p10:Prop} (h0:p0) (h1:p1) (h2:p2) (h3:p3) (h4:p4) (h5:p5) (h6:p6) (h7:p7) (h8:p8) (h9:p9) (h10:p10):Aside0 p0∧Aside0 p1∧Aside0 p2∧Aside0 p3∧Aside0 p4∧Aside0 p5∧Aside0 p6∧Aside0 p7∧Aside0 p8∧Aside0 p9∧Aside0 p10:=⟨⟨h0⟩,⟨h1⟩,⟨h2⟩,⟨h3⟩,⟨h4⟩,⟨h5⟩,⟨h6⟩,⟨h7⟩,⟨h8⟩,⟨h9⟩,⟨h10⟩⟩
theorem aZu {p0 p1 p2 p3 p4 p5 p6 p7 p8 p9 p10 p11 p12:Prop} (h0:p0) (h1:p1) (h2:p2) (h3:p3) (h4:p4) (h5:p5) (h6:p6) (h7:p7) (h8:p8) (h9:p9) (h10:p10) (h11:p11) (h12:p12):Aside0 p0∧Aside0 p1∧Aside0 p2∧Aside0 p3∧Aside0 p4∧Aside0 p5∧Aside0 p6∧Aside0 p7∧Aside0 p8∧Aside0 p9∧Aside0 p10∧Aside0 p11∧Aside0 p12:=⟨⟨h0⟩,⟨h1⟩,⟨h2⟩,⟨h3⟩,⟨h4⟩,⟨h5⟩,⟨h6⟩,⟨h7⟩,⟨h8⟩,⟨h9⟩,⟨h10⟩,⟨h11⟩,⟨h12⟩⟩
theorem aZj {p0 p1 p2 p3 p4 p5 p6 p7 p8 p9 p10 p11 p12 p13 p14:Prop} (h0:p0) (h1:p1) (h2:p2) (h3:p3) (h4:p4) (h5:p5) (h6:p6) (h7:p7) (h8:p8) (h9:p9) (h10:p10) (h11:p11) (h12:p12) (h13:p13) (h14:p14):Aside0 p0∧Aside0 p1∧Aside0 p2∧Aside0 p3∧Aside0 p4∧Aside0 p5∧Aside0 p6∧Aside0 p7∧Aside0 p8∧Aside0 p9∧Aside0 p10∧Aside0 p11∧Aside0 p12∧Aside0 p13∧Aside0 p14:=⟨⟨h0⟩,⟨h1⟩,⟨h2⟩,⟨h3⟩,⟨h4⟩,⟨h5⟩,⟨h6⟩,⟨h7⟩,⟨h8⟩,⟨h9⟩,⟨h10⟩,⟨h11⟩,⟨h12⟩,⟨h13⟩,⟨h14⟩⟩
theorem aWr {p0 p1 p2 p3 p4 p5 p6 p7 p8 p9 p10 p11 p12 p13 p14 p15 p16:Prop} (h0:p0) (h1:p1) (h2:p2) (h3:p3) (h4:p4) (h5:p5) (h6:p6) (h7:p7) (h8:p8) (h9:p9) (h10:p10) (h11:p11) (h12:p12) (h13:p13) (h14:p14) (h15:p15) (h16:p16):Aside0 p0∧Aside0 p1∧Aside0 p2∧Aside0 p3∧Aside0 p4∧Aside0 p5∧Aside0 p6∧Aside0 p7∧Aside0 p8∧Aside0 p9∧Aside0 p10∧Aside0 p11∧Aside0 p12∧Aside0 p13∧Aside0 p14∧Aside0 p15∧Aside0 p16:=⟨⟨h0⟩,⟨h1⟩,⟨h2⟩,⟨h3⟩,⟨h4⟩,⟨h5⟩,⟨h6⟩,⟨h7⟩,⟨h8⟩,⟨h9⟩,⟨h10⟩,⟨h11⟩,⟨h12⟩,⟨h13⟩,⟨h14⟩,⟨h15⟩,⟨h16⟩⟩
theorem aYi {p0 p1 p2 p3 p4 p5 p6 p7 p8 p9 p10 p11 p12 p13 p14 p15 p16 p17 p18:Prop} (h0:p0) (h1:p1) (h2:p2) (h3:p3) (h4:p4) (h5:p5) (h6:p6) (h7:p7) (h8:p8) (h9:p9) (h10:p10) (h11:p11) (h12:p12) (h13:p13) (h14:p14) (h15:p15) (h16:p16) (h17:p17) (h18:p18):Aside0 p0∧Aside0 p1∧Aside0 p2∧Aside0 p3∧Aside0 p4∧Aside0 p5∧Aside0 p6∧Aside0 p7∧Aside0 p8∧Aside0 p9∧Aside0 p10∧Aside0 p11∧Aside0 p12∧Aside0 p13∧Aside0 p14∧Aside0 p15∧Aside0 p16∧Aside0 p17∧Aside0 p18:=⟨⟨h0⟩,⟨h1⟩,⟨h2⟩,⟨h3⟩,⟨h4⟩,⟨h5⟩,⟨h6⟩,⟨h7⟩,⟨h8⟩,⟨h9⟩,⟨h10⟩,⟨h11⟩,⟨h12⟩,⟨h13⟩,⟨h14⟩,⟨h15⟩,⟨h16⟩,⟨h17⟩,⟨h18⟩⟩
theorem aZi {p0 p1 p2 p3 p4 p5 p6 p7 p8 p9 p10 p11 p12 p13 p14 p15 p16 p17 p18 p19:Prop} (h0:p0) (h1:p1) (h2:p2) (h3:p3) (h4:p4) (h5:p5) (h6:p6) (h7:p7) (h8:p8) (h9:p9) (h10:p10) (h11:p11) (h12:p12) (h13:p13) (h14:p14) (h15:p15) (h16:p16) (h17:p17) (h18:p18) (h19:p19):Aside0 p0∧Aside0 p1∧Aside0 p2∧Aside0 p3∧Aside0 p4∧Aside0 p5∧Aside0 p6∧Aside0 p7∧Aside0 p8∧Aside0 p9∧Aside0 p10∧Aside0 p11∧Aside0 p12∧Aside0 p13∧Aside0 p14∧Aside0 p15∧Aside0 p16∧Aside0 p17∧Aside0 p18∧Aside0 p19:=⟨⟨h0⟩,⟨h1⟩,⟨h2⟩,⟨h3⟩,⟨h4⟩,⟨h5⟩,⟨h6⟩,⟨h7⟩,⟨h8⟩,⟨h9⟩,⟨h10⟩,⟨h11⟩,⟨h12⟩,⟨h13⟩,⟨h14⟩,⟨h15⟩,⟨h16⟩,⟨h17⟩,⟨h18⟩,⟨h19⟩⟩
theorem aC7 {W:World} {g:Nat} {t:TypeId} {a0 a1:Value} (h:Go.Proofs.YtnbljcgdgblgoaaW.PrintWords.Aside0 (W.heap[g]? = some (.cells #[a0,a1] t (0,0)))):W.cell? ⟨g,0,none⟩=some a0:=(Go.Proofs.YtnbljcgdgblgoaaW.PrintWords.blk_cell h.out 0).trans rfl
theorem aC6 {W:World} {g:Nat} {t:TypeId} {a0 a1:Value} (h:Go.Proofs.YtnbljcgdgblgoaaW.PrintWords.Aside0 (W.heap[g]? = some (.cells #[a0,a1] t (0,0)))):W.cell? ⟨g,1,none⟩=some a1:=(Go.Proofs.YtnbljcgdgblgoaaW.PrintWords.blk_cell h.out 1).trans rfl
theorem zzY {p:Prop} (h:p:=by first|(rw[hy_];with_reducible exact H)|(have H2_:=(Option.bind_some _ _).symm.trans H;rw[hy_];with_reducible exact H2_)|(have H2_:=(Option.bind_some _ _).symm.trans H;with_reducible exact H2_)|with_reducible exact H|(rw[hy_];exact H)|exact H):p:=h
def zL:Nat→Nat→List Bool
 | 0,_=>[]
 | n+1,m=>Nat.beq (m%2) 1::zL n (m/2)
def zM (n m:Nat):Array Bool:=⟨zL n m⟩
theorem zP {P:Program} {ops:Array Oper} {Q:Exit→Act→World→Prop} {md:Region.Mode} {S:World→Prop} {ds:List Nat} {T:Bool×List (List Nat×List Nat)} {oi:Oper} {fuel:Nat} {l:Array Bool} {a:Act} {w:World} (i:Nat) (N:Tmp) (v:Value) (l':Array Bool) (hi:ops[i]? = some oi) (hN:oi.dst=some N) (hT:aFp md ops=T) (hy:∀ w,(execOp a.eval oi).run P w = .ok (.value v) w) (a':Act) (ha:a.put (some N) v=a')
  (h:aBq P md ops Q S ds fuel l' a' w) (hw:Region.wanted oi (yielded ops a.tmps)=true:=by rfl) (hc:aXs T l.toList l'.toList i=true:=by kernel_rfl) (hQ:∀ c a w,Q (.panic c) (a.put oi.dst v) w→Q (.panic c) a w:=by exact fun _ _ _ h=>h):aBq P md ops Q S ds (fuel+1) l a w:=Go.Proofs.YtnbljcgdgblgoaaW.PrintLast.pure_ l' hi hN (aTb hT hc) hQ (Or.inl ⟨hw,hy⟩) ha h
theorem zU {P:Program} {ops:Array Oper} {Q:Exit→Act→World→Prop} {md:Region.Mode} {S:World→Prop} {ds:List Nat} {T:Bool×List (List Nat×List Nat)} {oi:Oper} {fuel:Nat} {l:Array Bool} {a:Act} {w:World} (i:Nat) (N:Tmp) (l':Array Bool) (hi:ops[i]? = some oi) (hN:oi.dst=some N) (hT:aFp md ops=T) (a':Act) (ha:a.put (some N) undef=a')
  (h:aBq P md ops Q S ds fuel l' a' w) (hw:Region.wanted oi (yielded ops a.tmps)=false:=by rfl) (hc:aXs T l.toList l'.toList i=true:=by kernel_rfl) (hQ:∀ c a w,Q (.panic c) (a.put oi.dst undef) w→Q (.panic c) a w:=by exact fun _ _ _ h=>h):aBq P md ops Q S ds (fuel+1) l a w:=Go.Proofs.YtnbljcgdgblgoaaW.PrintLast.pure_ l' hi hN (aTb hT hc) hQ (Or.inr ⟨hw,rfl⟩) ha h
theorem zm0 {p:Prop} (h:p:=by repeat' first|(with_reducible apply ih0)|(with_reducible exact LeO.refl _)|(with_reducible exact LeO.none _)|(with_reducible refine LeO.ite ?_ ?_)|(with_reducible refine LeO.bind ?_ (fun _=>?_))|apply ih0|exact LeO.none _|refine LeO.ite ?_ ?_|refine LeO.bind ?_ (fun _=>?_)):p:=h
theorem zm1 {p:Prop} (h:p:=by repeat' first|(with_reducible apply ih0)|(with_reducible apply ih1)|(with_reducible exact LeO.refl _)|(with_reducible exact LeO.none _)|(with_reducible refine LeO.ite ?_ ?_)|(with_reducible refine LeO.bind ?_ (fun _=>?_))|apply ih0|apply ih1|exact LeO.none _|refine LeO.ite ?_ ?_|refine LeO.bind ?_ (fun _=>?_)):p:=h
theorem zm2 {p:Prop} (h:p:=by repeat' first|(with_reducible apply ih0)|(with_reducible apply ih1)|(with_reducible apply ih2)|(with_reducible apply aCc.mono)|(with_reducible apply aAy.mono)|(with_reducible apply aAe.mono)|(with_reducible apply aBa.mono)|(with_reducible apply aAa.mono)|(with_reducible apply aCb.mono)|(with_reducible apply aD5.mono)|(with_reducible apply aC1.mono)|(with_reducible exact LeO.refl _)|(with_reducible exact LeO.none _)|(with_reducible refine LeO.ite ?_ ?_)|(with_reducible refine LeO.bind ?_ (fun _=>?_))|apply ih0|apply ih1|apply ih2|apply aCc.mono|apply aAy.mono|apply aAe.mono|apply aBa.mono|apply aAa.mono|apply aCb.mono|apply aD5.mono|apply aC1.mono|exact LeO.none _|refine LeO.ite ?_ ?_|refine LeO.bind ?_ (fun _=>?_)):p:=h
theorem zm3 {p:Prop} (h:p:=by repeat' first|(with_reducible apply ih0)|(with_reducible apply ih1)|(with_reducible apply ih2)|(with_reducible apply ih3)|(with_reducible apply ih4)|(with_reducible apply aAp.mono)|(with_reducible apply aAg.mono)|(with_reducible exact LeO.refl _)|(with_reducible exact LeO.none _)|(with_reducible refine LeO.ite ?_ ?_)|(with_reducible refine LeO.bind ?_ (fun _=>?_))|apply ih0|apply ih1|apply ih2|apply ih3|apply ih4|apply aAp.mono|apply aAg.mono|exact LeO.none _|refine LeO.ite ?_ ?_|refine LeO.bind ?_ (fun _=>?_)):p:=h
theorem zm4 {p:Prop} (h:p:=by repeat' first|(with_reducible apply ih0)|(with_reducible apply ih1)|(with_reducible apply ih2)|(with_reducible apply ih3)|(with_reducible apply aAf.mono)|(with_reducible apply aB9.mono)|(with_reducible exact LeO.refl _)|(with_reducible exact LeO.none _)|(with_reducible refine LeO.ite ?_ ?_)|(with_reducible refine LeO.bind ?_ (fun _=>?_))|apply ih0|apply ih1|apply ih2|apply ih3|apply aAf.mono|apply aB9.mono|exact LeO.none _|refine LeO.ite ?_ ?_|refine LeO.bind ?_ (fun _=>?_)):p:=h
theorem zm5 {p:Prop} (h:p:=by repeat' first|(with_reducible apply ih0)|(with_reducible apply ih1)|(with_reducible apply ih2)|(with_reducible apply aAg.mono)|(with_reducible exact LeO.refl _)|(with_reducible exact LeO.none _)|(with_reducible refine LeO.ite ?_ ?_)|(with_reducible refine LeO.bind ?_ (fun _=>?_))|apply ih0|apply ih1|apply ih2|apply aAg.mono|exact LeO.none _|refine LeO.ite ?_ ?_|refine LeO.bind ?_ (fun _=>?_)):p:=h
theorem zm6 {p:Prop} (h:p:=by repeat' first|(with_reducible apply ih0)|(with_reducible apply ih1)|(with_reducible apply ih2)|(with_reducible apply aBc.mono)|(with_reducible exact LeO.refl _)|(with_reducible exact LeO.none _)|(with_reducible refine LeO.ite ?_ ?_)|(with_reducible refine LeO.bind ?_ (fun _=>?_))|apply ih0|apply ih1|apply ih2|apply aBc.mono|exact LeO.none _|refine LeO.ite ?_ ?_|refine LeO.bind ?_ (fun _=>?_)):p:=h
theorem zm7 {p:Prop} (h:p:=by repeat' first|(with_reducible apply ih0)|(with_reducible apply ih1)|(with_reducible apply aAi.mono)|(with_reducible apply aAg.mono)|(with_reducible apply aBb.mono)|(with_reducible exact LeO.refl _)|(with_reducible exact LeO.none _)|(with_reducible refine LeO.ite ?_ ?_)|(with_reducible refine LeO.bind ?_ (fun _=>?_))|apply ih0|apply ih1|apply aAi.mono|apply aAg.mono|apply aBb.mono|exact LeO.none _|refine LeO.ite ?_ ?_|refine LeO.bind ?_ (fun _=>?_)):p:=h
theorem zm8 {p:Prop} (h:p:=by repeat' first|(with_reducible apply ih0)|(with_reducible apply ih1)|(with_reducible apply aC8.mono)|(with_reducible apply aAi.mono)|(with_reducible apply aB6.mono)|(with_reducible exact LeO.refl _)|(with_reducible exact LeO.none _)|(with_reducible refine LeO.ite ?_ ?_)|(with_reducible refine LeO.bind ?_ (fun _=>?_))|apply ih0|apply ih1|apply aC8.mono|apply aAi.mono|apply aB6.mono|exact LeO.none _|refine LeO.ite ?_ ?_|refine LeO.bind ?_ (fun _=>?_)):p:=h
theorem zm9 {p:Prop} (h:p:=by repeat' first|(with_reducible apply ih0)|(with_reducible apply ih1)|(with_reducible apply aB3.mono)|(with_reducible apply aAt.mono)|(with_reducible apply aBo.mono)|(with_reducible exact LeO.refl _)|(with_reducible exact LeO.none _)|(with_reducible refine LeO.ite ?_ ?_)|(with_reducible refine LeO.bind ?_ (fun _=>?_))|apply ih0|apply ih1|apply aB3.mono|apply aAt.mono|apply aBo.mono|exact LeO.none _|refine LeO.ite ?_ ?_|refine LeO.bind ?_ (fun _=>?_)):p:=h
theorem aYw {p:Prop} (h:p:=by repeat' first|(with_reducible apply ih0)|(with_reducible apply ih1)|(with_reducible apply aAf.mono)|(with_reducible apply aAv.mono)|(with_reducible exact LeO.refl _)|(with_reducible exact LeO.none _)|(with_reducible refine LeO.ite ?_ ?_)|(with_reducible refine LeO.bind ?_ (fun _=>?_))|apply ih0|apply ih1|apply aAf.mono|apply aAv.mono|exact LeO.none _|refine LeO.ite ?_ ?_|refine LeO.bind ?_ (fun _=>?_)):p:=h
theorem aYv {p:Prop} (h:p:=by repeat' first|(with_reducible apply ih0)|(with_reducible apply ih1)|(with_reducible apply aAi.mono)|(with_reducible apply aBb.mono)|(with_reducible exact LeO.refl _)|(with_reducible exact LeO.none _)|(with_reducible refine LeO.ite ?_ ?_)|(with_reducible refine LeO.bind ?_ (fun _=>?_))|apply ih0|apply ih1|apply aAi.mono|apply aBb.mono|exact LeO.none _|refine LeO.ite ?_ ?_|refine LeO.bind ?_ (fun _=>?_)):p:=h
theorem aYu {p:Prop} (h:p:=by repeat' first|(with_reducible apply ih0)|(with_reducible apply ih1)|(with_reducible apply aAi.mono)|(with_reducible exact LeO.refl _)|(with_reducible exact LeO.none _)|(with_reducible refine LeO.ite ?_ ?_)|(with_reducible refine LeO.bind ?_ (fun _=>?_))|apply ih0|apply ih1|apply aAi.mono|exact LeO.none _|refine LeO.ite ?_ ?_|refine LeO.bind ?_ (fun _=>?_)):p:=h
theorem aZh {p:Prop} (h:p:=by repeat' first|(with_reducible apply ih0)|(with_reducible apply aB7.mono)|(with_reducible apply aAo.mono)|(with_reducible exact LeO.refl _)|(with_reducible exact LeO.none _)|(with_reducible refine LeO.ite ?_ ?_)|(with_reducible refine LeO.bind ?_ (fun _=>?_))|apply ih0|apply aB7.mono|apply aAo.mono|exact LeO.none _|refine LeO.ite ?_ ?_|refine LeO.bind ?_ (fun _=>?_)):p:=h
theorem aZg {p:Prop} (h:p:=by repeat' first|(with_reducible apply ih0)|(with_reducible apply aB3.mono)|(with_reducible exact LeO.refl _)|(with_reducible exact LeO.none _)|(with_reducible refine LeO.ite ?_ ?_)|(with_reducible refine LeO.bind ?_ (fun _=>?_))|apply ih0|apply aB3.mono|exact LeO.none _|refine LeO.ite ?_ ?_|refine LeO.bind ?_ (fun _=>?_)):p:=h
theorem aZf {p:Prop} (h:p:=by repeat' first|(with_reducible apply ih0)|(with_reducible apply aAo.mono)|(with_reducible exact LeO.refl _)|(with_reducible exact LeO.none _)|(with_reducible refine LeO.ite ?_ ?_)|(with_reducible refine LeO.bind ?_ (fun _=>?_))|apply ih0|apply aAo.mono|exact LeO.none _|refine LeO.ite ?_ ?_|refine LeO.bind ?_ (fun _=>?_)):p:=h
theorem aZe {p:Prop} (h:p:=by repeat' first|(with_reducible apply ih0)|(with_reducible apply aAv.mono)|(with_reducible exact LeO.refl _)|(with_reducible exact LeO.none _)|(with_reducible refine LeO.ite ?_ ?_)|(with_reducible refine LeO.bind ?_ (fun _=>?_))|apply ih0|apply aAv.mono|exact LeO.none _|refine LeO.ite ?_ ?_|refine LeO.bind ?_ (fun _=>?_)):p:=h
theorem aZd {p:Prop} (h:p:=by repeat' first|(with_reducible apply ih0)|(with_reducible apply aBg.mono)|(with_reducible exact LeO.refl _)|(with_reducible exact LeO.none _)|(with_reducible refine LeO.ite ?_ ?_)|(with_reducible refine LeO.bind ?_ (fun _=>?_))|apply ih0|apply aBg.mono|exact LeO.none _|refine LeO.ite ?_ ?_|refine LeO.bind ?_ (fun _=>?_)):p:=h
theorem zz0 {p:Prop} (h:p:=by(with_reducible repeat(first|refine aA8 ?_ _|refine aA9 ?_|refine aA7 ?_ _));exact aA.out):p:=h
theorem zz1 {p:Prop} (h:p:=by repeat(first|(with_reducible first|exact HB.out|apply aAz|apply aAj|apply aAs|refine aAh ?_ GE101.out)|exact HB.out)):p:=h
theorem zz2 {p:Prop} (h:p:=by repeat(first|(with_reducible first|exact HB.out|apply aAz|apply aAj|apply aAs)|exact HB.out)):p:=h
theorem zz3 {p:Prop} (h:p:=by(try simp only[List.map_toArray,List.map_cons,List.map_nil]);first|done|rfl|(simp only[List.length_drop,List.length_take];rfl)):p:=h
theorem zz4 {p:Prop} (h:p:=by first|(with_reducible assumption)|assumption):p:=h
theorem zz5 {p:Prop} (h:p:=by repeat(first|exact(Kd.C_below b5.out HB.out)|(with_reducible refine Kd.C_alloc ?_ _)|(with_reducible refine Kd.C_drewN ?_ _)|(with_reducible refine Kd.C_drew ?_))):p:=h
theorem zz6 {p:Prop} (h:p:=by first|rfl|(simp;done)|(simp[*];done)):p:=h
theorem zz7 {p:Prop} (h:p:=by(with_reducible repeat(first|refine aA8 ?_ _|refine aA9 ?_|refine aA7 ?_ _));exact aH.out):p:=h
theorem zz8 {p:Prop} (h:p:=by repeat(first|(with_reducible first|exact HK.out|apply aAu.set_|apply aDt|apply aDv|apply keep_alloc|refine aD0 ?_ GW101.out _|refine aD0 ?_ GW102.out _|refine aD0 ?_ GW113.out _)|exact HK.out)):p:=h
theorem zz9 {p:Prop} (h:p:=by first|rfl|(simp[aCm,aCl]<;>rfl)|(simp[*,aCm,aCl]<;>rfl)):p:=h
theorem aRh {p:Prop} (h:p:=by first|(refine aAc.same_ HI0.out ?_;(repeat(first|(with_reducible first|exact HI0.out|apply aA5.alloc|apply aA5.drewN|apply aA5.drew|apply aA5.set_1|apply aA5.set_2|refine aA5.far ?_ bN.out _|refine aA5.far ?_ bS.out _|refine aA5.far ?_ cB.out _)|exact HI0.out));first|done|exact HI0.out)|(repeat(first|(with_reducible first|exact HI0.out|apply aA5.alloc|apply aA5.drewN|apply aA5.drew|apply aA5.set_1|apply aA5.set_2|refine aA5.far ?_ bN.out _|refine aA5.far ?_ bS.out _|refine aA5.far ?_ cB.out _)|exact HI0.out))):p:=h
theorem aFj {p:Prop} (h:p:=by repeat(first|(with_reducible first|exact HB.out|apply aAz|apply aAj|apply aAs|refine aAh ?_ GE101.out|refine aAh ?_ GE106.out)|exact HB.out)):p:=h
theorem aCp {p:Prop} (h:p:=by first|(go_simp;done)|(go_simp;rfl)):p:=h
theorem aF5 {p:Prop} (h:p:=by(with_reducible repeat(first|refine aA8 ?_ _|refine aA9 ?_|refine aA7 ?_ _));exact a8.out):p:=h
theorem aRg {p:Prop} (h:p:=by(with_reducible repeat(first|refine aA8 ?_ _|refine aA9 ?_|refine aA7 ?_ _));refine aCd (cs:=#[.int .i64 ((aA4 aC bA).f0),.int .i64 0]) ?_ 1 _ rfl;(with_reducible repeat(first|refine aA8 ?_ _|refine aA9 ?_|refine aA7 ?_ _));refine aCd (cs:=#[.int .i64 0,.int .i64 0]) ?_ 0 _ rfl;(with_reducible repeat(first|refine aA8 ?_ _|refine aA9 ?_|refine aA7 ?_ _));exact cH.out):p:=h
theorem aLq {p:Prop} (h:p:=by repeat(first|(with_reducible first|exact HK.out|apply aAu.set_|apply aDt|apply aDv|apply keep_alloc|refine aD0 ?_ GW101.out _|refine aD0 ?_ GW102.out _|refine aD0 ?_ GW113.out _|refine aD0 ?_ GW132.out _)|exact HK.out)):p:=h
theorem aJ3 {p:Prop} (h:p:=by repeat(first|(with_reducible first|exact HB.out|apply aAz|apply aAj|apply aAs|refine aAh ?_ GE101.out|refine aAh ?_ GE102.out|refine aAh ?_ GE106.out|refine aAh ?_ GE107.out)|exact HB.out)):p:=h
theorem aJo {p:Prop} (h:p:=by repeat(first|(with_reducible first|exact HB.out|apply aAz|apply aAj|apply aAs|refine aAh ?_ GE101.out|refine aAh ?_ GE102.out|refine aAh ?_ GE106.out|refine aAh ?_ GE107.out|refine aAh ?_ GE109.out)|exact HB.out)):p:=h
theorem aDi {p:Prop} (h:p:=by rw[hg];exact(aAd zz2)):p:=h
theorem aJ2 {p:Prop} (h:p:=by repeat(first|(with_reducible first|exact HB.out|apply aAz|apply aAj|apply aAs|refine aAh ?_ GE101.out|refine aAh ?_ GE104.out)|exact HB.out)):p:=h
theorem aHx {p:Prop} (h:p:=by(with_reducible repeat(first|refine aA8 ?_ _|refine aA9 ?_|refine aA7 ?_ _));exact aN.out):p:=h
theorem aRf {p:Prop} (h:p:=by(with_reducible repeat(first|refine aA8 ?_ _|refine aA9 ?_|refine aA7 ?_ _));refine aBv ?_ fP.out _;(with_reducible repeat(first|refine aA8 ?_ _|refine aA9 ?_|refine aA7 ?_ _));refine aBv ?_ fP.out _;(with_reducible repeat(first|refine aA8 ?_ _|refine aA9 ?_|refine aA7 ?_ _));exact aN.out):p:=h
theorem aRe {p:Prop} (h:p:=by(with_reducible repeat(first|refine aA8 ?_ _|refine aA9 ?_|refine aA7 ?_ _));refine aBv ?_ bW.out _;(with_reducible repeat(first|refine aA8 ?_ _|refine aA9 ?_|refine aA7 ?_ _));refine aBv ?_ bW.out _;(with_reducible repeat(first|refine aA8 ?_ _|refine aA9 ?_|refine aA7 ?_ _));exact aA.out):p:=h
theorem aFo {p:Prop} (h:p:=by(with_reducible repeat(first|apply Kd.R_alloc|apply Kd.R_drewN|apply Kd.R_drew));exact aJ.out):p:=h
theorem aGd {p:Prop} (h:p:=by(with_reducible repeat(first|apply Kd.R_alloc|apply Kd.R_drewN|apply Kd.R_drew));exact aV.out):p:=h
theorem aRd {p:Prop} (h:p:=by repeat(first|(with_reducible first|exact HB.out|apply aAz|apply aAj|apply aAs|refine aAh ?_ (aA5.ge HI0.out)|refine aAh ?_ GE101.out|refine aAh ?_ GE102.out|refine aAh ?_ GE113.out|refine aAh ?_ GE132.out)|exact HB.out)):p:=h
theorem aOz {p:Prop} (h:p:=by repeat(first|(with_reducible first|exact HB.out|apply aAz|apply aAj|apply aAs|refine aAh ?_ (aA5.ge HI105.out)|refine aAh ?_ GE101.out|refine aAh ?_ GE112.out)|exact HB.out)):p:=h
theorem aI6 {p:Prop} (h:p:=by repeat(first|(with_reducible first|exact HB.out|apply aAz|apply aAj|apply aAs|refine aAh ?_ (aA5.ge HI0.out)|refine aAh ?_ GE101.out|refine aAh ?_ GE102.out|refine aAh ?_ GE113.out)|exact HB.out)):p:=h
theorem aI5 {p:Prop} (h:p:=by repeat(first|(with_reducible first|exact HB.out|apply aAz|apply aAj|apply aAs|refine aAh ?_ GE101.out|refine aAh ?_ GE102.out)|exact HB.out)):p:=h
theorem aYh {p:Prop} (h:p:=by first|(refine aAc.same_ HI0.out ?_;(repeat(first|(with_reducible first|exact HI0.out|apply aA5.alloc|apply aA5.drewN|apply aA5.drew|apply aA5.set_1|apply aA5.set_2|refine aA5.far ?_ bN.out _|refine aA5.far ?_ bS.out _|refine aA5.far ?_ cB.out _|refine aA5.far ?_ dJ.out _)|exact HI0.out));first|done|exact HI0.out)|(repeat(first|(with_reducible first|exact HI0.out|apply aA5.alloc|apply aA5.drewN|apply aA5.drew|apply aA5.set_1|apply aA5.set_2|refine aA5.far ?_ bN.out _|refine aA5.far ?_ bS.out _|refine aA5.far ?_ cB.out _|refine aA5.far ?_ dJ.out _)|exact HI0.out))):p:=h
theorem aIq {p:Prop} (h:p:=by repeat(first|(with_reducible first|exact HB.out|apply aAz|apply aAj|apply aAs|refine aAh ?_ GE108.out)|exact HB.out)):p:=h
theorem aMw {p:Prop} (h:p:=by repeat(first|exact(Kd.C_below HR1.out HB.out)|(with_reducible refine Kd.C_alloc ?_ _)|(with_reducible refine Kd.C_drewN ?_ _)|(with_reducible refine Kd.C_drew ?_))):p:=h
theorem aEg {p:Prop} (h:p:=by rw[hg];exact(aAd zz1)):p:=h
theorem aW1 {p:Prop} (h:p:=by(with_reducible repeat(first|refine aA8 ?_ _|refine aA9 ?_|refine aA7 ?_ _));refine aBv ?_ eK.out _;(with_reducible repeat(first|refine aA8 ?_ _|refine aA9 ?_|refine aA7 ?_ _));refine aBv ?_ eK.out _;(with_reducible repeat(first|refine aA8 ?_ _|refine aA9 ?_|refine aA7 ?_ _));exact aA.out):p:=h
theorem aW0 {p:Prop} (h:p:=by(with_reducible repeat(first|refine aA8 ?_ _|refine aA9 ?_|refine aA7 ?_ _));refine aBv ?_ eJ.out _;(with_reducible repeat(first|refine aA8 ?_ _|refine aA9 ?_|refine aA7 ?_ _));refine aBv ?_ eJ.out _;(with_reducible repeat(first|refine aA8 ?_ _|refine aA9 ?_|refine aA7 ?_ _));exact aH.out):p:=h
theorem aVz {p:Prop} (h:p:=by(with_reducible repeat(first|refine aA8 ?_ _|refine aA9 ?_|refine aA7 ?_ _));refine aBv ?_ gT.out _;(with_reducible repeat(first|refine aA8 ?_ _|refine aA9 ?_|refine aA7 ?_ _));refine aBv ?_ gT.out _;(with_reducible repeat(first|refine aA8 ?_ _|refine aA9 ?_|refine aA7 ?_ _));exact aA.out):p:=h
theorem aVy {p:Prop} (h:p:=by(with_reducible repeat(first|refine aA8 ?_ _|refine aA9 ?_|refine aA7 ?_ _));refine aBv ?_ eO.out _;(with_reducible repeat(first|refine aA8 ?_ _|refine aA9 ?_|refine aA7 ?_ _));refine aBv ?_ eO.out _;(with_reducible repeat(first|refine aA8 ?_ _|refine aA9 ?_|refine aA7 ?_ _));exact aA.out):p:=h
theorem aSx {p:Prop} (h:p:=by repeat(first|(with_reducible first|exact HI0.out|apply aA5.alloc|apply aA5.drewN|apply aA5.drew|apply aA5.set_1|apply aA5.set_2|refine aA5.far ?_ bN.out _|refine aA5.far ?_ bS.out _|refine aA5.far ?_ cB.out _)|exact HI0.out)):p:=h
theorem aLx {p:Prop} (h:p:=by rw[hg];exact Nat.ne_of_lt (aC3 (g:=aE) (o:=.cells #[.int .i64 aD,.slice (some bR) aC.length aG] 25 (0,0)) zz0)):p:=h
theorem aLw {p:Prop} (h:p:=by rw[hg];exact Nat.ne_of_gt (aC3 (g:=aE) (o:=.cells #[.int .i64 aD,.slice (some bR) aC.length aG] 25 (0,0)) zz0)):p:=h
theorem aWg {p:Prop} (h:p:=by(with_reducible repeat(first|refine aA8 ?_ _|refine aA9 ?_|refine aA7 ?_ _));refine aCd (cs:=#[.int .i64 ((aA4 aC bB).f0),.int .i64 0]) ?_ 1 _ rfl;(with_reducible repeat(first|refine aA8 ?_ _|refine aA9 ?_|refine aA7 ?_ _));refine aCd (cs:=#[.int .i64 0,.int .i64 0]) ?_ 0 _ rfl;(with_reducible repeat(first|refine aA8 ?_ _|refine aA9 ?_|refine aA7 ?_ _));exact bE.out):p:=h
theorem aRc {p:Prop} (h:p:=by repeat(first|(with_reducible first|exact HB.out|apply aAz|apply aAj|apply aAs|refine aAh ?_ (aA5.ge HI105.out)|refine aAh ?_ GE101.out)|exact HB.out)):p:=h
theorem aSw {p:Prop} (h:p:=by(with_reducible repeat(first|refine aA8 ?_ _|refine aA9 ?_|refine aA7 ?_ _));exact bD.out):p:=h
theorem aHu {p:Prop} (h:p:=by(with_reducible repeat(first|apply Kd.R_alloc|apply Kd.R_drewN|apply Kd.R_drew));exact bU.out):p:=h
theorem aVx {p:Prop} (h:p:=by repeat(first|(with_reducible first|exact HI0.out|apply aA5.alloc|apply aA5.drewN|apply aA5.drew|apply aA5.set_1|apply aA5.set_2|refine aA5.far ?_ bN.out _|refine aA5.far ?_ bS.out _|refine aA5.far ?_ cB.out _|refine aA5.far ?_ dJ.out _)|exact HI0.out)):p:=h
theorem aWf {p:Prop} (h:p:=by(with_reducible repeat(first|refine aA8 ?_ _|refine aA9 ?_|refine aA7 ?_ _));refine aBv ?_ fO.out _;(with_reducible repeat(first|refine aA8 ?_ _|refine aA9 ?_|refine aA7 ?_ _));refine aBv ?_ fO.out _;(with_reducible repeat(first|refine aA8 ?_ _|refine aA9 ?_|refine aA7 ?_ _));exact bD.out):p:=h
theorem aWe {p:Prop} (h:p:=by(with_reducible repeat(first|apply Kd.R_alloc|apply Kd.R_drewN|apply Kd.R_drew));exact Kd.R_mono (Kd.R_far (p:=⟨bJ,1,none⟩) (Kd.R_far (p:=⟨bJ,0,none⟩) (Kd.R_mono bC.out (fun k_ hk=>(⟨hk,hk.2⟩:_∧k_≠bJ))) (fun _ hk=>hk.2) (.int .i64 ((aA4 aC bA).f0))) (fun _ hk=>hk.2) (.int .i64 ((aA4 aC bA).f1))) (fun _ hk=>⟨hk.1.1,hk.1.2⟩)):p:=h
theorem aSv {p:Prop} (h:p:=by repeat(first|(with_reducible first|exact HK.out|apply aAu.set_|apply aDt|apply aDv|apply keep_alloc|refine aD0 ?_ GW101.out _|refine aD0 ?_ GW102.out _)|exact HK.out)):p:=h
theorem aLp {p:Prop} (h:p:=by repeat(first|(with_reducible first|exact HK.out|apply aAu.set_|apply aDt|apply aDv|apply keep_alloc)|exact HK.out)):p:=h
theorem aYg {p:Prop} (h:p:=by(with_reducible repeat(first|refine aA8 ?_ _|refine aA9 ?_|refine aA7 ?_ _));refine aCd (cs:=#[.int .i64 cJ,.slice none 0 0]) ?_ 1 _ rfl;(with_reducible repeat(first|refine aA8 ?_ _|refine aA9 ?_|refine aA7 ?_ _));refine aCd (cs:=#[.int .i64 0,.slice none 0 0]) ?_ 0 _ rfl;(with_reducible repeat(first|refine aA8 ?_ _|refine aA9 ?_|refine aA7 ?_ _));exact cV.out):p:=h
theorem aOy {p:Prop} (h:p:=by(with_reducible repeat(first|refine aA8 ?_ _|refine aA9 ?_|refine aA7 ?_ _));exact d2.out):p:=h
theorem aP1 {p:Prop} (h:p:=by rw[hg];exact Nat.ne_of_lt (aC3 (g:=aE) (o:=.cells #[.int .i64 0,.slice none 0 0] 25 (0,0)) zz0)):p:=h
theorem aP0 {p:Prop} (h:p:=by rw[hg];exact Nat.ne_of_gt (aC3 (g:=aE) (o:=.cells #[.int .i64 0,.slice none 0 0] 25 (0,0)) zz0)):p:=h
theorem aRk {p:Prop} (h:p:=by first|exact Kd.R_nil _ _ _ _ _|exact Kd.N_nil _ _ _ _ _|exact Kd.V_nil _ _ _ _ _|exact Kd.Q_nil _ _ _ _ _|exact Kd.S_nil _ _ _ _ _):p:=h
theorem aYf {p:Prop} (h:p:=by rw[hg];exact Nat.ne_of_lt (aA5.lt (show aA5 w0 _ g s0_0 nQ l6 from by repeat(first|(with_reducible first|exact HI0.out|apply aA5.alloc|apply aA5.drewN|apply aA5.drew|apply aA5.set_1|apply aA5.set_2|refine aA5.far ?_ bN.out _|refine aA5.far ?_ bS.out _|refine aA5.far ?_ cB.out _)|exact HI0.out)))):p:=h
theorem aYe {p:Prop} (h:p:=by rw[hg];exact Nat.ne_of_gt (aA5.lt (show aA5 w0 _ g s0_0 nQ l6 from by repeat(first|(with_reducible first|exact HI0.out|apply aA5.alloc|apply aA5.drewN|apply aA5.drew|apply aA5.set_1|apply aA5.set_2|refine aA5.far ?_ bN.out _|refine aA5.far ?_ bS.out _|refine aA5.far ?_ cB.out _)|exact HI0.out)))):p:=h
theorem aTi {p:Prop} (h:p:=by(with_reducible repeat(first|refine aA8 ?_ _|refine aA9 ?_|refine aA7 ?_ _));refine aBv ?_ fS.out _;(with_reducible repeat(first|refine aA8 ?_ _|refine aA9 ?_|refine aA7 ?_ _));exact aA.out):p:=h
theorem aTh {p:Prop} (h:p:=by(with_reducible repeat(first|refine aA8 ?_ _|refine aA9 ?_|refine aA7 ?_ _));refine aBv ?_ eT.out _;(with_reducible repeat(first|refine aA8 ?_ _|refine aA9 ?_|refine aA7 ?_ _));exact aH.out):p:=h
theorem aRj {p:Prop} (h:p:=by(with_reducible repeat(first|refine aA8 ?_ _|refine aA9 ?_|refine aA7 ?_ _));refine aBv ?_ fQ.out _;(with_reducible repeat(first|refine aA8 ?_ _|refine aA9 ?_|refine aA7 ?_ _));exact aN.out):p:=h
theorem aVw {p:Prop} (h:p:=by repeat(first|(with_reducible first|exact HB.out|apply aAz|apply aAj|apply aAs|refine aAh ?_ GE101.out|refine aAh ?_ GE103.out)|exact HB.out)):p:=h
theorem aLv {p:Prop} (h:p:=by(with_reducible repeat(first|refine aA8 ?_ _|refine aA9 ?_|refine aA7 ?_ _));exact b7.out):p:=h
theorem aRb {p:Prop} (h:p:=by(with_reducible repeat(first|apply Kd.R_alloc|apply Kd.R_drewN|apply Kd.R_drew));exact mB.out):p:=h
theorem aYt {p:Prop} (h:p:=by(with_reducible repeat(first|refine aA8 ?_ _|refine aA9 ?_|refine aA7 ?_ _));refine aCd (cs:=#[.int .i64 dN,.int .i64 0]) ?_ 1 _ rfl;(with_reducible repeat(first|refine aA8 ?_ _|refine aA9 ?_|refine aA7 ?_ _));refine aCd (cs:=#[.int .i64 0,.int .i64 0]) ?_ 0 _ rfl;(with_reducible repeat(first|refine aA8 ?_ _|refine aA9 ?_|refine aA7 ?_ _));exact aN.out):p:=h
theorem aTg {p:Prop} (h:p:=by repeat(first|exact HR0.out|(with_reducible refine Kd.C_alloc ?_ _)|(with_reducible refine Kd.C_drewN ?_ _)|(with_reducible refine Kd.C_drew ?_))):p:=h
theorem aVv {p:Prop} (h:p:=by repeat(first|exact(Kd.R_reads' aV.out).2.2|(with_reducible refine Kd.C_alloc ?_ _)|(with_reducible refine Kd.C_drewN ?_ _)|(with_reducible refine Kd.C_drew ?_))):p:=h
theorem aVu {p:Prop} (h:p:=by repeat(first|exact(Kd.R_reads' cP.out).2.2|(with_reducible refine Kd.C_alloc ?_ _)|(with_reducible refine Kd.C_drewN ?_ _)|(with_reducible refine Kd.C_drew ?_))):p:=h
theorem aVt {p:Prop} (h:p:=by repeat(first|exact(Kd.C_below HR0.out HB.out)|(with_reducible refine Kd.C_alloc ?_ _)|(with_reducible refine Kd.C_drewN ?_ _)|(with_reducible refine Kd.C_drew ?_))):p:=h
theorem aVs {p:Prop} (h:p:=by repeat(first|exact(Kd.R_reads' bU.out).2.2|(with_reducible refine Kd.C_alloc ?_ _)|(with_reducible refine Kd.C_drewN ?_ _)|(with_reducible refine Kd.C_drew ?_))):p:=h
theorem aWd {p:Prop} (h:p:=by(with_reducible repeat(first|refine aA8 ?_ _|refine aA9 ?_|refine aA7 ?_ _));refine aBv ?_ cO.out _;(with_reducible repeat(first|refine aA8 ?_ _|refine aA9 ?_|refine aA7 ?_ _));refine aBv ?_ cO.out _;(with_reducible repeat(first|refine aA8 ?_ _|refine aA9 ?_|refine aA7 ?_ _));exact aA.out):p:=h
theorem aYs {p:Prop} (h:p:=by(with_reducible repeat(first|refine aA8 ?_ _|refine aA9 ?_|refine aA7 ?_ _));refine aBv ?_ gR.out _;(with_reducible repeat(first|refine aA8 ?_ _|refine aA9 ?_|refine aA7 ?_ _));refine aBv ?_ gR.out _;(with_reducible repeat(first|refine aA8 ?_ _|refine aA9 ?_|refine aA7 ?_ _));exact aH.out):p:=h
theorem aYr {p:Prop} (h:p:=by(with_reducible repeat(first|refine aA8 ?_ _|refine aA9 ?_|refine aA7 ?_ _));refine aBv ?_ eM.out _;(with_reducible repeat(first|refine aA8 ?_ _|refine aA9 ?_|refine aA7 ?_ _));refine aBv ?_ eM.out _;(with_reducible repeat(first|refine aA8 ?_ _|refine aA9 ?_|refine aA7 ?_ _));exact aA.out):p:=h
theorem aWc {p:Prop} (h:p:=by repeat(first|(with_reducible exact HR125_0.out)|(with_reducible refine Kd.C_alloc ?_ _)|(with_reducible refine Kd.C_drewN ?_ _)|(with_reducible refine Kd.C_drew ?_)|exact HR125_0.out)):p:=h
theorem aYd {p:Prop} (h:p:=by(with_reducible repeat(first|refine aA8 ?_ _|refine aA9 ?_|refine aA7 ?_ _));refine aBv ?_ f9.out _;(with_reducible repeat(first|refine aA8 ?_ _|refine aA9 ?_|refine aA7 ?_ _));exact cH.out):p:=h
theorem aYc {p:Prop} (h:p:=by repeat(first|(with_reducible first|exact HI105.out|apply aA5.alloc|apply aA5.drewN|apply aA5.drew|apply aA5.set_1|apply aA5.set_2|refine aA5.far ?_ cF.out _|refine aA5.far ?_ eS.out _)|exact HI105.out)):p:=h
theorem aO5 {p:Prop} (h:p:=by(with_reducible repeat(first|apply Kd.R_alloc|apply Kd.R_drewN|apply Kd.R_drew));exact dB.out):p:=h
theorem aVr {p:Prop} (h:p:=by(with_reducible repeat(first|apply Kd.R_alloc|apply Kd.R_drewN|apply Kd.R_drew));exact Kd.R_mono aJ.out (fun _ hk=>⟨hk.2,hk.1⟩)):p:=h
theorem aVq {p:Prop} (h:p:=by(with_reducible repeat(first|apply Kd.R_alloc|apply Kd.R_drewN|apply Kd.R_drew));exact Kd.R_mono aV.out (fun _ hk=>⟨hk.2,hk.1⟩)):p:=h
theorem aWb {p:Prop} (h:p:=by repeat(first|(with_reducible first|exact HK.out|apply aAu.set_|apply aDt|apply aDv|apply keep_alloc|refine aD0 ?_ GW101.out _)|exact HK.out)):p:=h
theorem aVp {p:Prop} (h:p:=by(with_reducible repeat(first|apply Kd.R_alloc|apply Kd.R_drewN|apply Kd.R_drew));exact Kd.R_mono g7.out (fun _ hk=>⟨hk.1.2,hk.2⟩)):p:=h
theorem aSu {p:Prop} (h:p:=by rw[hw];exact aAh hI.hb (by have:=HB3S.out;have:=HZ12.out;show w0.heap.size≤gt;omega)):p:=h
theorem aYq {p:Prop} (h:p:=by(with_reducible repeat(first|apply Kd.R_alloc|apply Kd.R_drewN|apply Kd.R_drew));exact(Kd.R_mono (Kd.R_far (p:=⟨bI,1,none⟩) (Kd.R_far (p:=⟨bI,0,none⟩) (Kd.R_types bU.out aN.out (by decide)) (fun _ hk=>hk.2) (.int .i64 ((aA4 aC aZ).f0))) (fun _ hk=>hk.2) (.int .i64 ((aA4 aC aZ).f1))) (fun _ h_=>h_.1))):p:=h
theorem aOx {p:Prop} (h:p:=by repeat(first|(with_reducible first|exact HB.out|apply aAz|apply aAj|apply aAs|refine aAh ?_ (aA5.ge HI0.out))|exact HB.out)):p:=h
theorem aVo {p:Prop} (h:p:=by rw[hg];exact Nat.ne_of_lt (aC3 (g:=aE) (o:=.cells #[.int .i64 aD,.slice (some fL) aC.length aG] 25 (0,0)) zz0)):p:=h
theorem aVn {p:Prop} (h:p:=by rw[hg];exact Nat.ne_of_gt (aC3 (g:=aE) (o:=.cells #[.int .i64 aD,.slice (some fL) aC.length aG] 25 (0,0)) zz0)):p:=h
theorem aRa {p:Prop} (h:p:=by repeat(first|(with_reducible first|exact HI0.out|apply aA5.alloc|apply aA5.drewN|apply aA5.drew|apply aA5.set_1|apply aA5.set_2)|exact HI0.out)):p:=h
theorem aVm {p:Prop} (h:p:=by repeat(first|(with_reducible first|exact HBW.out|apply aAz|apply aAj|apply aAs)|exact HBW.out)):p:=h
theorem aTf {p:Prop} (h:p:=by rw[hg];exact Nat.ne_of_lt (aC3 (g:=aU) (o:=.cells #[.int .i64 bK,u103001] 25 (0,0)) zz7)):p:=h
theorem aTe {p:Prop} (h:p:=by rw[hg];exact Nat.ne_of_gt (aC3 (g:=aU) (o:=.cells #[.int .i64 bK,u103001] 25 (0,0)) zz7)):p:=h
theorem aG6 {p:Prop} (h:p:=by have:=HK1.out;omega):p:=h
theorem aWa {p:Prop} (h:p:=by repeat(first|exact(Kd.R_reads' cR.out).2.2|(with_reducible refine Kd.C_alloc ?_ _)|(with_reducible refine Kd.C_drewN ?_ _)|(with_reducible refine Kd.C_drew ?_))):p:=h
theorem aYp {p:Prop} (h:p:=by(with_reducible repeat(first|apply Kd.R_alloc|apply Kd.R_drewN|apply Kd.R_drew));exact(Kd.R_mono (Kd.R_far (p:=⟨cY,1,none⟩) (Kd.R_far (p:=⟨cY,0,none⟩) (Kd.R_types dW.out cV.out (by decide)) (fun _ hk=>hk.2) (.int .i64 cJ)) (fun _ hk=>hk.2) (.slice Ao16 cK.length co16)) (fun _ h_=>h_.1))):p:=h
theorem aYo {p:Prop} (h:p:=by(with_reducible repeat(first|apply Kd.R_alloc|apply Kd.R_drewN|apply Kd.R_drew));exact(Kd.R_mono (Kd.R_far (p:=⟨cY,1,none⟩) (Kd.R_far (p:=⟨cY,0,none⟩) (Kd.R_types dW.out cV.out (by decide)) (fun _ hk=>hk.2) (.int .i64 cJ)) (fun _ hk=>hk.2) (.slice Ao34 cK.length co34)) (fun _ h_=>h_.1))):p:=h
theorem aYn {p:Prop} (h:p:=by(with_reducible repeat(first|apply Kd.R_alloc|apply Kd.R_drewN|apply Kd.R_drew));exact(Kd.R_mono (Kd.R_far (p:=⟨cY,1,none⟩) (Kd.R_far (p:=⟨cY,0,none⟩) (Kd.R_types k5.out cV.out (by decide)) (fun _ hk=>hk.2) (.int .i64 3)) (fun _ hk=>hk.2) (.slice Ao38 iY.length co38)) (fun _ h_=>h_.1))):p:=h
theorem aTd {p:Prop} (h:p:=by(with_reducible repeat(first|apply Kd.R_alloc|apply Kd.R_drewN|apply Kd.R_drew));exact fF.out):p:=h
theorem aYb {p:Prop} (h:p:=by repeat(first|(with_reducible exact HR110_0.out)|(with_reducible refine Kd.C_alloc ?_ _)|(with_reducible refine Kd.C_drewN ?_ _)|(with_reducible refine Kd.C_drew ?_)|exact HR110_0.out)):p:=h
theorem aZc {p:Prop} (h:p:=by first|(refine aAc.same_ HI0.out ?_;(repeat(first|(with_reducible first|exact HI0.out|apply aA5.alloc|apply aA5.drewN|apply aA5.drew|apply aA5.set_1|apply aA5.set_2|refine aA5.far ?_ bN.out _|refine aA5.far ?_ bS.out _)|exact HI0.out));first|done|exact HI0.out)|(repeat(first|(with_reducible first|exact HI0.out|apply aA5.alloc|apply aA5.drewN|apply aA5.drew|apply aA5.set_1|apply aA5.set_2|refine aA5.far ?_ bN.out _|refine aA5.far ?_ bS.out _)|exact HI0.out))):p:=h
theorem aW9 {p:Prop} (h:p:=by(with_reducible repeat(first|refine aA8 ?_ _|refine aA9 ?_|refine aA7 ?_ _));refine aCd (cs:=#[.int .i64 aD,u108001]) ?_ 1 _ rfl;(with_reducible repeat(first|refine aA8 ?_ _|refine aA9 ?_|refine aA7 ?_ _));exact bD.out):p:=h
theorem aVl {p:Prop} (h:p:=by rw[hg];exact Nat.ne_of_lt (aC3 (g:=aU) (o:=.cells #[.int .i64 0,.slice none 0 0] 25 (0,0)) zz7)):p:=h
theorem aVk {p:Prop} (h:p:=by rw[hg];exact Nat.ne_of_gt (aC3 (g:=aU) (o:=.cells #[.int .i64 0,.slice none 0 0] 25 (0,0)) zz7)):p:=h
theorem aVj {p:Prop} (h:p:=by(with_reducible repeat(first|apply Kd.R_alloc|apply Kd.R_drewN|apply Kd.R_drew));exact bC.out):p:=h
theorem aP9 {p:Prop} (h:p:=by rw[hg];exact Nat.ne_of_lt (aC3 (g:=aE) (o:=.cells #[.int .i64 aD,.slice (some iF) aC.length aG] 25 (0,0)) zz0)):p:=h
theorem aP8 {p:Prop} (h:p:=by rw[hg];exact Nat.ne_of_gt (aC3 (g:=aE) (o:=.cells #[.int .i64 aD,.slice (some iF) aC.length aG] 25 (0,0)) zz0)):p:=h
theorem aIr {p:Prop} (h:p:=by(with_reducible repeat(first|apply Kd.R_alloc|apply Kd.R_drewN|apply Kd.R_drew));exact cR.out):p:=h
theorem aO8 {p:Prop} (h:p:=by(with_reducible repeat(first|apply Kd.R_alloc|apply Kd.R_drewN|apply Kd.R_drew));exact dW.out):p:=h
theorem aLy {p:Prop} (h:p:=by repeat(first|(with_reducible first|exact HB.out|apply aAz|apply aAj|apply aAs|refine aAh ?_ (aA5.ge HI104.out))|exact HB.out)):p:=h
theorem aGi {p:Prop} (h:p:=by have:=HK1.out;have:=HK2.out;omega):p:=h
theorem aO7 {p:Prop} (h:p:=by(with_reducible repeat(first|apply Kd.S_alloc|apply Kd.S_drewN|apply Kd.S_drew));exact bU.out):p:=h
theorem aP7 {p:Prop} (h:p:=by repeat(first|(with_reducible first|exact HK.out|apply Kept.alloc|apply Kept.drewN|apply Kept.drew)|exact HK.out)):p:=h
theorem aRp {p:Prop} (h:p:=by repeat(first|(with_reducible first|exact HB.out|apply aAz|apply aAj|apply aAs|refine aAh ?_ GE102.out)|exact HB.out)):p:=h
theorem aWq {p:Prop} (h:p:=by(with_reducible repeat(first|refine aA8 ?_ _|refine aA9 ?_|refine aA7 ?_ _));refine aCd (cs:=#[.int .i64 3,.slice Ao34 cK.length co34]) ?_ 1 _ rfl;(with_reducible repeat(first|refine aA8 ?_ _|refine aA9 ?_|refine aA7 ?_ _));refine aCd (cs:=#[.int .i64 cJ,.slice Ao34 cK.length co34]) ?_ 0 _ rfl;(with_reducible repeat(first|refine aA8 ?_ _|refine aA9 ?_|refine aA7 ?_ _));exact cV.out):p:=h
theorem aRo {p:Prop} (h:p:=by repeat(first|exact(Kd.R_reads' dB.out).2.2|(with_reducible refine Kd.C_alloc ?_ _)|(with_reducible refine Kd.C_drewN ?_ _)|(with_reducible refine Kd.C_drew ?_))):p:=h
theorem aWp {p:Prop} (h:p:=by(with_reducible repeat(first|refine aA8 ?_ _|refine aA9 ?_|refine aA7 ?_ _));refine aCd (cs:=#[.int .i64 ((aA4 aC aZ).f0),.int .i64 0]) ?_ 1 _ rfl;(with_reducible repeat(first|refine aA8 ?_ _|refine aA9 ?_|refine aA7 ?_ _));refine aCd (cs:=#[.int .i64 0,.int .i64 0]) ?_ 0 _ rfl;(with_reducible repeat(first|refine aA8 ?_ _|refine aA9 ?_|refine aA7 ?_ _));exact aN.out):p:=h
theorem aTl {p:Prop} (h:p:=by repeat(first|(with_reducible first|exact HB.out|apply aAz|apply aAj|apply aAs|refine aAh ?_ GE101.out|refine aAh ?_ GE102.out|refine aAh ?_ GE106.out)|exact HB.out)):p:=h
theorem aP6 {p:Prop} (h:p:=by rw[hg];exact Nat.ne_of_lt (aC3 (g:=bI) (o:=.cells #[.int .i64 dN,.int .i64 eE] 57 (0,0)) aHx)):p:=h
theorem aP5 {p:Prop} (h:p:=by rw[hg];exact Nat.ne_of_gt (aC3 (g:=bI) (o:=.cells #[.int .i64 dN,.int .i64 eE] 57 (0,0)) aHx)):p:=h
theorem aWo {p:Prop} (h:p:=by(with_reducible repeat(first|refine aA8 ?_ _|refine aA9 ?_|refine aA7 ?_ _));refine aCd (cs:=#[.int .i64 cJ,.int .i64 0]) ?_ 1 _ rfl;(with_reducible repeat(first|refine aA8 ?_ _|refine aA9 ?_|refine aA7 ?_ _));refine aCd (cs:=#[.int .i64 0,.int .i64 0]) ?_ 0 _ rfl;(with_reducible repeat(first|refine aA8 ?_ _|refine aA9 ?_|refine aA7 ?_ _));exact cH.out):p:=h
theorem aP4 {p:Prop} (h:p:=by rw[hg];exact Nat.ne_of_lt (aC3 (g:=dK) (o:=.cells #[.int .i64 aD,u108001] 25 (0,0)) aSw)):p:=h
theorem aP3 {p:Prop} (h:p:=by rw[hg];exact Nat.ne_of_gt (aC3 (g:=dK) (o:=.cells #[.int .i64 aD,u108001] 25 (0,0)) aSw)):p:=h
theorem aP2 {p:Prop} (h:p:=by(with_reducible repeat(first|apply Kd.R_alloc|apply Kd.R_drewN|apply Kd.R_drew));exact HL125_0.out):p:=h
theorem aRn {p:Prop} (h:p:=by(with_reducible repeat(first|apply Kd.S_alloc|apply Kd.S_drewN|apply Kd.S_drew));exact Kd.S_mono bU.out (fun _ hk=>⟨trivial,hk⟩)):p:=h
theorem aRm {p:Prop} (h:p:=by first|exact Kd.S_nil _ _ _ _ _|exact Kd.N_nil _ _ _ _ _|exact Kd.V_nil _ _ _ _ _|exact Kd.Q_nil _ _ _ _ _|exact Kd.R_nil _ _ _ _ _):p:=h
theorem aRl {p:Prop} (h:p:=by(with_reducible repeat(first|apply Kd.S_alloc|apply Kd.S_drewN|apply Kd.S_drew));exact Kd.S_mono bU.out (fun _ hk=>hk.2)):p:=h
theorem aTk {p:Prop} (h:p:=by repeat(first|(with_reducible first|exact HB.out|apply aAz|apply aAj|apply aAs|refine aAh ?_ GE101.out|refine aAh ?_ GE105.out)|exact HB.out)):p:=h
theorem aI7 {p:Prop} (h:p:=by have:=HJ3.out;have:=HK2.out;omega):p:=h
theorem aWn {p:Prop} (h:p:=by rw[hg];exact Nat.ne_of_lt (aA5.lt (show aA5 w0 _ g s0_0 mQ lA from by repeat(first|(with_reducible first|exact HI0.out|apply aA5.alloc|apply aA5.drewN|apply aA5.drew|apply aA5.set_1|apply aA5.set_2|refine aA5.far ?_ bN.out _|refine aA5.far ?_ bS.out _|refine aA5.far ?_ cB.out _)|exact HI0.out)))):p:=h
theorem aWm {p:Prop} (h:p:=by rw[hg];exact Nat.ne_of_gt (aA5.lt (show aA5 w0 _ g s0_0 mQ lA from by repeat(first|(with_reducible first|exact HI0.out|apply aA5.alloc|apply aA5.drewN|apply aA5.drew|apply aA5.set_1|apply aA5.set_2|refine aA5.far ?_ bN.out _|refine aA5.far ?_ bS.out _|refine aA5.far ?_ cB.out _)|exact HI0.out)))):p:=h
theorem aWl {p:Prop} (h:p:=by first|exact Kd.own_blk (Kd.N_away iL.out (fun _ hk=>hk.2.2.2.2.1))|(rw[aDf];exact Kd.own_blk (Kd.N_away iL.out (fun _ hk=>hk.2.2.2.2.1)))|(show (Addr.add _ _).block≠_;rw[aDf];exact Kd.own_blk (Kd.N_away iL.out (fun _ hk=>hk.2.2.2.2.1)))|(dsimp only;exact Kd.own_blk (Kd.N_away iL.out (fun _ hk=>hk.2.2.2.2.1)))):p:=h
theorem aWk {p:Prop} (h:p:=by(with_reducible repeat(first|apply Kd.N_alloc|apply Kd.N_drewN|apply Kd.N_drew));exact(Kd.N_mono (Kd.N_far (p:=⟨cY,1,none⟩) (Kd.N_far (p:=⟨cY,0,none⟩) (Kd.N_mono cU.out (fun k_ hk=>(⟨hk,hk.1.2.2.2.1⟩:_∧k_≠cY))) (fun _ hk=>hk.2) (.int .i64 3)) (fun _ hk=>hk.2) (.slice Ao38 iY.length co38)) (fun _ h_=>h_.1))):p:=h
theorem aWj {p:Prop} (h:p:=by(with_reducible repeat(first|apply Kd.R_alloc|apply Kd.R_drewN|apply Kd.R_drew));exact Kd.R_mono (Kd.R_far (p:=⟨bI,1,none⟩) (Kd.R_far (p:=⟨bI,0,none⟩) (Kd.R_types bU.out aN.out (by decide)) (fun _ hk=>hk.2) (.int .i64 ((aA4 aC aZ).f0))) (fun _ hk=>hk.2) (.int .i64 ((aA4 aC aZ).f1))) (fun _ hk=>trivial)):p:=h
theorem aO6 {p:Prop} (h:p:=by repeat(first|(with_reducible first|exact HI104.out|apply aA5.alloc|apply aA5.drewN|apply aA5.drew|apply aA5.set_1|apply aA5.set_2)|exact HI104.out)):p:=h
theorem aWi {p:Prop} (h:p:=by first|exact Kd.own_blk (Kd.N_away cU.out (fun _ hk=>hk.2.2.1))|(rw[aDf];exact Kd.own_blk (Kd.N_away cU.out (fun _ hk=>hk.2.2.1)))|(show (Addr.add _ _).block≠_;rw[aDf];exact Kd.own_blk (Kd.N_away cU.out (fun _ hk=>hk.2.2.1)))|(dsimp only;exact Kd.own_blk (Kd.N_away cU.out (fun _ hk=>hk.2.2.1)))):p:=h
theorem aTj {p:Prop} (h:p:=by repeat(first|(with_reducible first|exact HBW.out|apply aAz|apply aAj|apply aAs|refine aAh ?_ GWg.out)|exact HBW.out)):p:=h
theorem aWh {p:Prop} (h:p:=by(with_reducible repeat(first|apply Kd.R_alloc|apply Kd.R_drewN|apply Kd.R_drew));exact(Kd.R_mono (Kd.R_far (p:=⟨cY,1,none⟩) (Kd.R_far (p:=⟨cY,0,none⟩) (Kd.R_types dW.out cV.out (by decide)) (fun _ hk=>hk.2) (.int .i64 3)) (fun _ hk=>hk.2) (.slice Ao38 iY.length co38)) (fun _ h_=>h_.1))):p:=h
theorem zzS {p:Prop} (h:p:=by simp only[Act.put,List.setIfInBounds_toArray,List.set_cons_zero,List.set_cons_succ,aE7,aHv];rfl):p:=h
theorem zzT {p:Prop} (h:p:=by go_simp;with_reducible rfl):p:=h
theorem zQ {P:Program} {ops:Array Oper} {Q:Exit→Act→World→Prop} {md:Region.Mode} {S:World→Prop} {ds:List Nat} {T:Bool×List (List Nat×List Nat)} {oi:Oper} {fuel:Nat} {l:Array Bool} {a:Act} {w:World} {v:Value} {a':Act} (i:Nat) (N:Tmp) (l':Array Bool) (h:aBq P md ops Q S ds fuel l' a' w) (hi:ops[i]? = some oi:=by exact rfl) (hN:oi.dst=some N:=by exact rfl) (hT:aFp md ops=T:=by exact HT_.out) (hy:∀ w,(execOp a.eval oi).run P w = .ok (.value v) w:=by exact fun _=>zzT) (ha:a.put (some N) v=a':=by exact zzS)
  (hw:Region.wanted oi (yielded ops a.tmps)=true:=by rfl) (hc:aXs T l.toList l'.toList i=true:=by kernel_rfl) (hQ:∀ c a w,Q (.panic c) (a.put oi.dst v) w→Q (.panic c) a w:=by exact fun _ _ _ h=>h):aBq P md ops Q S ds (fuel+1) l a w:=zP i N v l' hi hN hT hy a' ha h hw hc hQ
end Go.Proofs.Ytnbljcgdgblgoaa.P
namespace Go.Proofs.Ytnbljcgdgblgoaa.P
open Go.RowKit Go.Proofs.YtnbljcgdgblgoaaW.PrintWords Go.Proofs.YtnbljcgdgblgoaaW.PrintLast Go.Proofs.YtnbljcgdgblgoaaW.PrintMore
attribute [local go_sem] aCt aCr aDb aDa aCa aC9 aCs aCq
def aA5 (w0 W:World) (g:Nat) (f0:List Int) (f1:Int) (f2:Int):Prop:=∃ A0 c0,W.heap[g]? = some (.cells #[.slice A0 f0.length c0,.int .i64 f1,.int .i64 f2] 88 (0,0))∧w0.heap.size≤g∧Kd.C (Kd.int .u8) w0 A0 f0.length f0
theorem aA5.grown {w0 W:World} {g:Nat} {f0:List Int} {f1:Int} {f2:Int} {W1:World} {row:Option Nat} (h:aA5 w0 W g f0 f1 f2) (hw:W.grownBy W1 row) (hne:some g≠row):aA5 w0 W1 g f0 f1 f2:=by
 obtain⟨A0,c0,hb,hg,hr0⟩:=h;exact⟨A0,c0,aAk hb hw hne,hg,hr0⟩
theorem aA5.own_neN {w0 W:World} {g:Nat} {f0:List Int} {f1:Int} {f2:Int} {α:Type} {d:Kd α} {e:Nat} {base:Nat} {ok:Nat→Prop} {v:Value} {xs:List α} (h:aA5 w0 W g f0 f1 f2) (ho:Kd.N d e W base ok v xs) (ht:e≠88):some g≠v.ownBlock:=by
 obtain⟨A0,c0,hb,hg,hr0⟩:=h;exact Kd.N_ne ho hb ht
theorem aA5.fresh {w0 W:World} {g:Nat} {f0:List Int} {f1:Int} {f2:Int} (h:aA5 w0 W g f0 f1 f2):∀ k,W.heap.size≤k→k≠g:=by
 obtain⟨A0,c0,hb,hg,hr0⟩:=h;exact Kd.freshB hb
theorem aA5.below {w0 W:World} {g:Nat} {f0:List Int} {f1:Int} {f2:Int} {W1:World} (h:aA5 w0 W g f0 f1 f2) (hw:Below W.heap.size W W1):aA5 w0 W1 g f0 f1 f2:=h.grown (aIz hw none) (by simp)
theorem aA5.drewN {w0 W:World} {g:Nat} {f0:List Int} {f1:Int} {f2:Int} (h:aA5 w0 W g f0 f1 f2) (m:Nat):aA5 w0 (W.drewN m) g f0 f1 f2:=h
theorem aA5.drew {w0 W:World} {g:Nat} {f0:List Int} {f1:Int} {f2:Int} (h:aA5 w0 W g f0 f1 f2):aA5 w0 W.drew g f0 f1 f2:=h
theorem aA5.apart {w0 W:World} {g:Nat} {f0:List Int} {f1:Int} {f2:Int} {α:Type} {d:Kd α} {e:Nat} {base:Nat} {ok:Nat→Prop} {v:Value} {xs:List α} (h:aA5 w0 W g f0 f1 f2) (ho:d.R e W base ok v xs) (ht:∀ q,q∈e::d.E→q≠88):d.R e W base (fun k=>ok k∧k≠g) v xs:=by
 obtain⟨A0,c0,hb,hg,hr0⟩:=h;exact Kd.R_types ho hb ht
theorem aA5.own_ne {w0 W:World} {g:Nat} {f0:List Int} {f1:Int} {f2:Int} {α:Type} {d:Kd α} {e:Nat} {base:Nat} {ok:Nat→Prop} {v:Value} {xs:List α} (h:aA5 w0 W g f0 f1 f2) (ho:d.R e W base ok v xs) (ht:e≠88):some g≠v.ownBlock:=by
 obtain⟨A0,c0,hb,hg,hr0⟩:=h;exact Kd.R_ne ho hb ht
theorem aA5.lt {w0 W:World} {g:Nat} {f0:List Int} {f1:Int} {f2:Int} (h:aA5 w0 W g f0 f1 f2):g<W.heap.size:=by
 obtain⟨A0,c0,hb,hg,hr0⟩:=h;exact aC3 hb
theorem aA5.ge {w0 W:World} {g:Nat} {f0:List Int} {f1:Int} {f2:Int} (h:aA5 w0 W g f0 f1 f2):w0.heap.size≤g:=by
 obtain⟨A0,c0,hb,hg,hr0⟩:=h;exact hg
theorem aA5.ne_blk {w0 W:World} {g:Nat} {f0:List Int} {f1:Int} {f2:Int} {a:Nat} {cs:Array Value} {t:TypeId} {fr:Nat×Nat} (h:aA5 w0 W g f0 f1 f2) (hb2:W.heap[a]? = some (.cells cs t fr)) (ht:t≠88):g≠a:=by
 obtain⟨A0,c0,hb,hg,hr0⟩:=h;rintro rfl;rw[hb]at hb2;injection hb2 with hb2;injection hb2 with _ ht2;exact ht ht2.symm
theorem aA5.far {w0 W:World} {g:Nat} {f0:List Int} {f1:Int} {f2:Int} {p:Addr} (h:aA5 w0 W g f0 f1 f2) (hne:g≠p.block) (u:Value):aA5 w0 (W.setCell p u) g f0 f1 f2:=by
 obtain⟨A0,c0,hb,hg,hr0⟩:=h;exact⟨A0,c0,aBv hb hne u,hg,hr0⟩
theorem aLg {W:World} {g:Nat} {A0:Option Addr} {c0:Nat} {f0:List Int} {f1:Int} {f2:Int} (h:W.heap[g]? = some (.cells #[.slice A0 f0.length c0,.int .i64 f1,.int .i64 f2] 88 (0,0))):W.cell? ⟨g,0,none⟩=some (.slice A0 f0.length c0):=(blk_cell h 0).trans rfl
theorem aLf {W:World} {g:Nat} {A0:Option Addr} {c0:Nat} {f0:List Int} {f1:Int} {f2:Int} (h:W.heap[g]? = some (.cells #[.slice A0 f0.length c0,.int .i64 f1,.int .i64 f2] 88 (0,0))):W.cell? ⟨g,1,none⟩=some (.int .i64 f1):=(blk_cell h 1).trans rfl
theorem aA5.set_1 {w0 W:World} {g:Nat} {f0:List Int} {f1:Int} {f2:Int} (h:aA5 w0 W g f0 f1 f2) (x:Int):aA5 w0 (W.setCell ⟨g,1,none⟩ (.int .i64 x)) g f0 x f2:=by
 obtain⟨A0,c0,hb,hg,hr0⟩:=h;exact⟨A0,c0,by simpa using aF4 hb 1 (.int .i64 x),hg,hr0⟩
theorem aLe {W:World} {g:Nat} {A0:Option Addr} {c0:Nat} {f0:List Int} {f1:Int} {f2:Int} (h:W.heap[g]? = some (.cells #[.slice A0 f0.length c0,.int .i64 f1,.int .i64 f2] 88 (0,0))):W.cell? ⟨g,2,none⟩=some (.int .i64 f2):=(blk_cell h 2).trans rfl
theorem aA5.set_2 {w0 W:World} {g:Nat} {f0:List Int} {f1:Int} {f2:Int} (h:aA5 w0 W g f0 f1 f2) (x:Int):aA5 w0 (W.setCell ⟨g,2,none⟩ (.int .i64 x)) g f0 f1 x:=by
 obtain⟨A0,c0,hb,hg,hr0⟩:=h;exact⟨A0,c0,by simpa using aF4 hb 2 (.int .i64 x),hg,hr0⟩
def aBg.l0:Nat→List Int→Int→Int→Option (List Int×Int×Int)
 | 0,_,_,_=>none
 | k+1,x0,x3,x4=>if x4<(x0.length:Int) then(if x4<4000 then(if 0≤x4 then(aBg.l0 k x0 (Go.bits .and .i64 (wrap64 ((wrap64 ((wrap64 (x3*97))+(wrap64 (rd x0 x4))))+7)) 1073741823) (wrap64 (x4+1))) else(none)) else(some (x0,0,x3))) else(some (x0,0,x3))
def aBg.f (k:Nat) (l0:List Int):Option (List Int×Int×Int):=aBg.l0 k l0 (wrap64 (2069+(l0.length:Int))) 0
theorem aBg.mono_l:∀ k,(∀ y0 y1 y2,LeO (aBg.l0 k y0 y1 y2) (aBg.l0 (k+1) y0 y1 y2))
 | 0=>fun _ _ _ r h=>by simp[aBg.l0]at h
 | k+1=>by
  have ih0:=aBg.mono_l k
  ·intro y0 y1 y2
   unfold aBg.l0
   exact zm0
theorem aBg.mono:∀ a0 k,LeO (aBg.f k a0) (aBg.f (k+1) a0):=by
 intro a0 k;have ih0:=aBg.mono_l k;unfold aBg.f;exact zm0
theorem aBg.calls2 (k:Nat) (A0:Option Addr) (c0:Nat) (l0:List Int) (r1:List Int) (r2:Int) (r3:Int) (w0 w:World) (hB:Below w0.heap.size w0 w) (hr0:Kd.C (Kd.int .u8) w0 A0 l0.length l0) (hc0:l0.length≤c0) (h:aBg.f k l0=some (r1,r2,r3)) :
  Calls Try.prog 33 #[.slice A0 l0.length c0] w fun e w'=>∃ g_:Nat,e = .returned (.pointer (some ⟨g_,0,none⟩))∧aA5 w0 w' g_ r1 r2 r3∧Below w0.heap.size w0 w'∧Below w.heap.size w w'∧w.heap.size≤g_:=by
 have hu88:=Try.underlying88;have HR0:=zK_ hr0;have HC0:=zK_ hc0;clear hr0 hc0;have HBW:=zK_ (Below.refl w.heap.size w);have HW0:=zK_ hB.size;have HB:=zK_ hB;clear hB;have H:(aBg.l0 k l0 (wrap64 (2069+(l0.length:Int))) 0)=some (r1,r2,r3):=h;clear h;have H':=zK_ H;clear H;go_enter Try.func33,Try.ntmps33;go_wp2;(go_loopg [3,4] k (fun kq v3 v4 w'=>∃ (dS:Int) (bF:Int),v3 = .int .i64 dS∧v4 = .int .i64 bF∧Aside0 (aBg.l0 kq l0 dS bF=some (r1,r2,r3))∧Aside0 (kq≤k)∧Aside0 (Below w0.heap.size w0 w')∧Aside0 (Below w.heap.size w w')));case atStart=>exact⟨(wrap64 (2069+(l0.length:Int))),(0),zz6,zz6,H',⟨Nat.le_refl _⟩,⟨zz2⟩,⟨by repeat(first|(with_reducible first|exact HBW.out|apply aAz|apply aAj|apply aAs)|exact HBW.out)⟩⟩
 case round =>
  clear H';obtain⟨dS,bF,rfl,rfl,HA,HK1,HB,HBW⟩:=hrel
  cases gk with
  | zero=>exact absurd HA.out (by simp[aBg.l0])
  | succ k1 =>
   have H:=HA.out;clear HA;simp only[aBg.l0]at H;by_cases c2:bF<(l0.length:Int);rotate_left
   ·rw[if_neg c2]at H;have mR:=decide_eq_false c2;clear c2;simp only[Option.some.injEq,Prod.mk.injEq]at H;obtain⟨rfl,rfl,rfl⟩:=H;(go_wp2_with (first|((with_reducible refine aAn (N:=31) rfl ?_);refine aAl ?hg (N:=31) ?hd (cs:=#[.slice A0 l0.length c0,.int .i64 0,.int .i64 dS]) (t:=88) ?hr ?_;(case hd=>rfl);(case hg=>rfl);(case hr=>exact aCp);intro eG hg w6 hbox hb;have n_:=zA5 (aA2 HBW.out hb) (aA2 zz2 hb) hbox (by rw[hg];exact(aAd aVm):w.heap.size≤eG) (Nat.le_trans HW0.out (by rw[hg];exact(aAd aVm):w.heap.size≤eG):w0.heap.size≤eG);clear HBW HB;obtain⟨HBW,HB,eR,GW103,GE103⟩:=n_;clear hb hbox hg)));go_ret;exact⟨_,rfl,(show aA5 w0 _ eG l0 0 dS from ⟨_,_,by(with_reducible repeat(first|refine aA8 ?_ _|refine aA9 ?_|refine aA7 ?_ _));exact eR.out,GE103.out,HR0.out⟩),by repeat(first|(with_reducible first|exact HB.out|apply aAz|apply aAj|apply aAs|refine aAh ?_ GE103.out)|exact HB.out),by repeat(first|(with_reducible first|exact HBW.out|apply aAz|apply aAj|apply aAs|refine aAh ?_ GW103.out)|exact HBW.out),GW103.out⟩
   rw[if_pos c2]at H;have mR:=decide_eq_true c2;clear c2;by_cases c3:bF<4000;rotate_left
   ·rw[if_neg c3]at H;have iQ:=decide_eq_false c3;clear c3;simp only[Option.some.injEq,Prod.mk.injEq]at H;obtain⟨rfl,rfl,rfl⟩:=H;(go_wp2_with (first|((with_reducible refine aAn (N:=31) rfl ?_);refine aAl ?hg (N:=31) ?hd (cs:=#[.slice A0 l0.length c0,.int .i64 0,.int .i64 dS]) (t:=88) ?hr ?_;(case hd=>rfl);(case hg=>rfl);(case hr=>exact aCp);intro aU hg w5 hbox hb;have n_:=zA5 (aA2 HBW.out hb) (aA2 zz2 hb) hbox (by rw[hg];exact(aAd aVm):w.heap.size≤aU) (Nat.le_trans HW0.out (by rw[hg];exact(aAd aVm):w.heap.size≤aU):w0.heap.size≤aU);clear HBW HB;obtain⟨HBW,HB,aH,GW102,GE102⟩:=n_;clear hb hbox hg)));go_ret;exact⟨_,rfl,(show aA5 w0 _ aU l0 0 dS from ⟨_,_,zz7,GE102.out,HR0.out⟩),aRp,by repeat(first|(with_reducible first|exact HBW.out|apply aAz|apply aAj|apply aAs|refine aAh ?_ GW102.out)|exact HBW.out),GW102.out⟩
   rw[if_pos c3]at H;have iQ:=decide_eq_true c3;clear c3;by_cases c4:0≤bF;rotate_left
   ·rw[if_neg c4]at H;exact absurd H (by simp)
   rw[if_pos c4]at H;have gJ:=decide_eq_true c4;clear c4;have H':=zK_ H;clear H;have p101:0≤(bF:Int):=of_decide_eq_true zz4;have q101:bF<(l0.length:Int):=of_decide_eq_true zz4;obtain⟨dU,e101,bL⟩:=Kd.at_int HR0.out bF p101 q101;cases e101;replace bL:=aFg HB.out bL;replace p101:=eq_true p101;replace q101:=eq_true q101;go_wp2;go_roundg k1;(case measure=>have:=HK1.out;omega);case rel=>exact⟨(Go.bits .and .i64 (wrap64 ((wrap64 ((wrap64 (dS*97))+(wrap64 (rd l0 bF))))+7)) 1073741823),(wrap64 (bF+1)),zz6,zz6,H',⟨aG6⟩,⟨zz2⟩,⟨by repeat(first|(with_reducible first|exact HBW.out|apply aAz|apply aAj|apply aAs)|exact HBW.out)⟩⟩
theorem aBg.calls (k:Nat) (A0:Option Addr) (c0:Nat) (l0:List Int) (r1:List Int) (r2:Int) (r3:Int) (w0 w:World) (hB:Below w0.heap.size w0 w) (hr0:Kd.C (Kd.int .u8) w0 A0 l0.length l0) (hc0:l0.length≤c0) (h:aBg.f k l0=some (r1,r2,r3)) :
  Calls Try.prog 33 #[.slice A0 l0.length c0] w fun e w'=>∃ g_:Nat,e = .returned (.pointer (some ⟨g_,0,none⟩))∧aA5 w0 w' g_ r1 r2 r3∧Below w0.heap.size w0 w'∧Below w.heap.size w w':=by
 refine(aBg.calls2 k A0 c0 l0 r1 r2 r3 w0 w hB hr0 hc0 h).mono ?_;rintro e w' ⟨g_,rfl,hi,hb,hb2,_⟩;exact⟨g_,rfl,hi,hb,hb2⟩
end Go.Proofs.Ytnbljcgdgblgoaa.P
end
section
namespace Go.Proofs.Ytnbljcgdgblgoaa.P
open Go.RowKit Go.Proofs.YtnbljcgdgblgoaaW.PrintWords Go.Proofs.YtnbljcgdgblgoaaW.PrintLast Go.Proofs.YtnbljcgdgblgoaaW.PrintMore
attribute [local go_sem] aCt aCr aDb aDa aCa aC9 aCs aCq
def aBy.f (s0_0:List Int) (s0_1:Int) (s0_2:Int):Option (Int×Int×Int):=if s0_1<(s0_0.length:Int) then(if 0≤s0_1 then(some (Go.bits .and .i64 (wrap64 ((Go.bits .and .i64 (Go.bits .xor .i64 ((wrap64 ((wrap64 (s0_2*6364136223846793005))+1442695040888963407))/8589934592) ((wrap64 ((wrap64 (s0_2*6364136223846793005))+1442695040888963407))/35184372088832)) 255)+(wrap64 (rd s0_0 s0_1)))) 255,wrap64 (s0_1+1),wrap64 ((wrap64 (s0_2*6364136223846793005))+1442695040888963407))) else(none)) else(some (Go.bits .and .i64 (Go.bits .xor .i64 ((wrap64 ((wrap64 (s0_2*6364136223846793005))+1442695040888963407))/8589934592) ((wrap64 ((wrap64 (s0_2*6364136223846793005))+1442695040888963407))/35184372088832)) 255,s0_1,wrap64 ((wrap64 (s0_2*6364136223846793005))+1442695040888963407)))
theorem aBy.calls (g:Nat) (s0_0:List Int) (s0_1:Int) (s0_2:Int) (r1:Int) (r2:Int) (r3:Int) (w0 w:World) (hI:aA5 w0 w g s0_0 s0_1 s0_2) (hB:Below w0.heap.size w0 w) (h:aBy.f s0_0 s0_1 s0_2=some (r1,r2,r3)) :
  Calls Try.prog 38 #[.pointer (some ⟨g,0,none⟩)] w fun e w'=>e = .returned (.int .i64 r1)∧aA5 w0 w' g s0_0 r2 r3∧Below w0.heap.size w0 w'∧aAu w w' g none:=by
 have HI0:=zK_ hI;have HK:=zK_ (aAu.refl w g none);have HL:=zK_ hB.size;clear hI;have HW0:=zK_ hB.size;have HB:=zK_ hB;clear hB;have H:(if s0_1<(s0_0.length:Int) then(if 0≤s0_1 then(some (Go.bits .and .i64 (wrap64 ((Go.bits .and .i64 (Go.bits .xor .i64 ((wrap64 ((wrap64 (s0_2*6364136223846793005))+1442695040888963407))/8589934592) ((wrap64 ((wrap64 (s0_2*6364136223846793005))+1442695040888963407))/35184372088832)) 255)+(wrap64 (rd s0_0 s0_1)))) 255,wrap64 (s0_1+1),wrap64 ((wrap64 (s0_2*6364136223846793005))+1442695040888963407))) else(none)) else(some (Go.bits .and .i64 (Go.bits .xor .i64 ((wrap64 ((wrap64 (s0_2*6364136223846793005))+1442695040888963407))/8589934592) ((wrap64 ((wrap64 (s0_2*6364136223846793005))+1442695040888963407))/35184372088832)) 255,s0_1,wrap64 ((wrap64 (s0_2*6364136223846793005))+1442695040888963407))))=some (r1,r2,r3):=h;clear h;by_cases c2:s0_1<(s0_0.length:Int);rotate_left
 ·rw[if_neg c2]at H;have mR:=decide_eq_false c2;clear c2;simp only[Option.some.injEq,Prod.mk.injEq]at H;obtain⟨rfl,rfl,rfl⟩:=H;obtain⟨ASz5_0,cSz5_0,HGz5,hgz5,HSz5_0⟩:=HI0.out;have lL:=aLg HGz5;have lK:=aLf HGz5;have KD:=aLe HGz5;have lF:=aA0 HGz5 1;have J9:=aA0 HGz5 2;clear HGz5 hgz5;go_enter Try.func38,Try.ntmps38;go_wp2;(repeat(go_quiet (fail);try go_wp2));go_ret;exact⟨zz9,aRa,aOx,aLp⟩
 rw[if_pos c2]at H;have mR:=decide_eq_true c2;clear c2;by_cases c3:0≤s0_1;rotate_left
 ·rw[if_neg c3]at H;exact absurd H (by simp)
 rw[if_pos c3]at H;have iQ:=decide_eq_true c3;clear c3;simp only[Option.some.injEq,Prod.mk.injEq]at H;obtain⟨rfl,rfl,rfl⟩:=H;obtain⟨ASz4_0,cSz4_0,HGz4,hgz4,HSz4_0⟩:=HI0.out;have rI:=aLg HGz4;have rH:=aLf HGz4;have KE:=aLe HGz4;have rG:=aA0 HGz4 1;have KA:=aA0 HGz4 2;clear HGz4 hgz4;have p101:0≤(s0_1:Int):=of_decide_eq_true zz4;have q101:s0_1<(s0_0.length:Int):=of_decide_eq_true zz4;obtain⟨dU,e101,bL⟩:=Kd.at_int HSz4_0 s0_1 p101 q101;cases e101;have hn101_0:dU.block≠g:=Nat.ne_of_lt (Nat.lt_of_lt_of_le (by have:=World.block_lt_of_cell? _ _ bL;first|rwa[aDf]at this|exact this) (aA5.ge HI0.out));replace bL:=aFg HB.out bL;replace bL:=(cell_far (p:=⟨g,2,none⟩) (by first|(rw[aDf];exact hn101_0)|(show (Addr.add _ _).block≠_;rw[aDf];exact hn101_0)|exact hn101_0) (.int .i64 (wrap64 ((wrap64 (s0_2*6364136223846793005))+1442695040888963407)))).trans bL;(try have hy101_0:=fun (n_:Nat)=>(show (((w.drewN n_).setCell ⟨g,2,none⟩ (.int .i64 (wrap64 ((wrap64 (s0_2*6364136223846793005))+1442695040888963407))))).cell? _=some _ from bL));clear hn101_0;replace p101:=eq_true p101;replace q101:=eq_true q101;go_enter Try.func38,Try.ntmps38;go_wp2;(repeat(go_quiet (fail);try go_wp2));go_ret;exact⟨zz9,aRa,aOx,aLp⟩
def aBj.f (s0_0:List Int) (s0_1:Int) (s0_2:Int) (a1:Int):Option (Int×Int×Int):=if a1≤0 then(some (0,s0_1,s0_2)) else(if a1≤256 then((aBy.f s0_0 s0_1 s0_2).bind fun cD=>(if a1=0 then(none) else(some (Int.tmod cD.1 a1,cD.2.1,cD.2.2)))) else((aBy.f s0_0 s0_1 s0_2).bind fun oL=>((aBy.f s0_0 oL.2.1 oL.2.2).bind fun oK=>((aBy.f s0_0 oK.2.1 oK.2.2).bind fun iX=>((aBy.f s0_0 iX.2.1 iX.2.2).bind fun iW=>(if a1=0 then(none) else(some (Int.tmod (wrap64 ((wrap64 ((wrap64 ((wrap64 (oL.1*16777216))+(wrap64 (oK.1*65536))))+(wrap64 (iX.1*256))))+iW.1)) a1,iW.2.1,iW.2.2))))))))
theorem aBj.calls (g:Nat) (s0_0:List Int) (s0_1:Int) (s0_2:Int) (a1:Int) (r1:Int) (r2:Int) (r3:Int) (w0 w:World) (hI:aA5 w0 w g s0_0 s0_1 s0_2) (hB:Below w0.heap.size w0 w) (h:aBj.f s0_0 s0_1 s0_2 a1=some (r1,r2,r3)) :
  Calls Try.prog 36 #[.pointer (some ⟨g,0,none⟩),.int .i64 a1] w fun e w'=>e = .returned (.int .i64 r1)∧aA5 w0 w' g s0_0 r2 r3∧Below w0.heap.size w0 w'∧aAu w w' g none:=by
 have HI0:=zK_ hI;have HK:=zK_ (aAu.refl w g none);have HL:=zK_ hB.size;clear hI;have HW0:=zK_ hB.size;have HB:=zK_ hB;clear hB;have H:(if a1≤0 then(some (0,s0_1,s0_2)) else(if a1≤256 then((aBy.f s0_0 s0_1 s0_2).bind fun cD=>(if a1=0 then(none) else(some (Int.tmod cD.1 a1,cD.2.1,cD.2.2)))) else((aBy.f s0_0 s0_1 s0_2).bind fun oL=>((aBy.f s0_0 oL.2.1 oL.2.2).bind fun oK=>((aBy.f s0_0 oK.2.1 oK.2.2).bind fun iX=>((aBy.f s0_0 iX.2.1 iX.2.2).bind fun iW=>(if a1=0 then(none) else(some (Int.tmod (wrap64 ((wrap64 ((wrap64 ((wrap64 (oL.1*16777216))+(wrap64 (oK.1*65536))))+(wrap64 (iX.1*256))))+iW.1)) a1,iW.2.1,iW.2.2)))))))))=some (r1,r2,r3):=h;clear h;by_cases c3:a1≤0
 ·rw[if_pos c3]at H;have iQ:=decide_eq_true c3;clear c3;simp only[Option.some.injEq,Prod.mk.injEq]at H;obtain⟨rfl,rfl,rfl⟩:=H;go_enter Try.func36,Try.ntmps36;go_wp2;go_ret;exact⟨zz9,aRa,aOx,aLp⟩
 rw[if_neg c3]at H;have iQ:=decide_eq_false c3;clear c3;by_cases c4:a1≤256
 ·rw[if_pos c4]at H;have gJ:=decide_eq_true c4;clear c4;replace H:=zO_ H;obtain⟨⟨bY,aW,bH⟩,A50,H⟩:=H;dsimp only at H;have A5:=zK_ A50;clear A50;by_cases c6:a1=0
  ·rw[if_pos c6]at H;exact absurd H (by simp)
  rw[if_neg c6]at H;have kS:(a1==0)=false:=beq_eq_false_iff_ne.mpr c6;have oD:(a1 != 0)=true:=bne_iff_ne.mpr c6;simp only[Option.some.injEq,Prod.mk.injEq]at H;obtain⟨rfl,rfl,rfl⟩:=H;go_enter Try.func36,Try.ntmps36;(go_wp2_with (first|((with_reducible refine aAb (f:=38) rfl ?_);refine aBd (some 14) rfl rfl Try.func38 (by kernel_rfl) rfl #[.pointer (some ⟨g,0,none⟩)] rfl zz3 ?_;(with_reducible refine(aBy.calls g s0_0 s0_1 s0_2 bY aW bH w0 _ ?side1 ?side2 A5.out).mono ?_);(case side1=>exact aRa);(case side2=>exact aOx);rintro e w7 ⟨rfl,hi,hb,hk⟩;refine⟨_,rfl,?_⟩;have n_:=zA3 (aAu.trans aLp hk (.inl rfl)) hb hi;clear HK HB HI0;obtain⟨HK,HB,HI0⟩:=n_;clear hi hb hk)));go_ret;exact⟨zz9,aRa,aOx,aLp⟩
 rw[if_neg c4]at H;have gJ:=decide_eq_false c4;clear c4;replace H:=zO_ H;obtain⟨⟨iO,dT,cJ⟩,A80,H⟩:=H;dsimp only at H;have A8:=zK_ A80;clear A80;replace H:=zO_ H;obtain⟨⟨cK,f5,fJ⟩,A90,H⟩:=H;dsimp only at H;have A9:=zK_ A90;clear A90;replace H:=zO_ H;obtain⟨⟨gW,jX,o8⟩,A100,H⟩:=H;dsimp only at H;have A10:=zK_ A100;clear A100;replace H:=zO_ H;obtain⟨⟨lB,mX,uV⟩,A110,H⟩:=H;dsimp only at H;have A11:=zK_ A110;clear A110;by_cases c12:a1=0
 ·rw[if_pos c12]at H;exact absurd H (by simp)
 rw[if_neg c12]at H;have nE:(a1==0)=false:=beq_eq_false_iff_ne.mpr c12;have qS:(a1 != 0)=true:=bne_iff_ne.mpr c12;simp only[Option.some.injEq,Prod.mk.injEq]at H;obtain⟨rfl,rfl,rfl⟩:=H;go_enter Try.func36,Try.ntmps36;(go_wp2_with (first|((with_reducible refine aAb (f:=38) rfl ?_);refine aBd (some 18) rfl rfl Try.func38 (by kernel_rfl) rfl #[.pointer (some ⟨g,0,none⟩)] rfl zz3 ?_;(with_reducible refine(aBy.calls g s0_0 s0_1 s0_2 iO dT cJ w0 _ ?side1 ?side2 A8.out).mono ?_);(case side1=>exact aRa);(case side2=>exact aOx);rintro e w13 ⟨rfl,hi,hb,hk⟩;refine⟨_,rfl,?_⟩;have n_:=zA3 (aAu.trans aLp hk (.inl rfl)) hb hi;clear HK HB HI0;obtain⟨HK,HB,HI0⟩:=n_;clear hi hb hk)|((with_reducible refine aAb (f:=38) rfl ?_);refine aBd (some 20) rfl rfl Try.func38 (by kernel_rfl) rfl #[.pointer (some ⟨g,0,none⟩)] rfl zz3 ?_;(with_reducible refine(aBy.calls g s0_0 dT cJ cK f5 fJ w0 _ ?side1 ?side2 A9.out).mono ?_);(case side1=>exact aRa);(case side2=>exact aOx);rintro e w14 ⟨rfl,hi,hb,hk⟩;refine⟨_,rfl,?_⟩;have n_:=zA3 (aAu.trans aLp hk (.inl rfl)) hb hi;clear HK HB HI0;obtain⟨HK,HB,HI0⟩:=n_;clear hi hb hk)|((with_reducible refine aAb (f:=38) rfl ?_);refine aBd (some 22) rfl rfl Try.func38 (by kernel_rfl) rfl #[.pointer (some ⟨g,0,none⟩)] rfl zz3 ?_;(with_reducible refine(aBy.calls g s0_0 f5 fJ gW jX o8 w0 _ ?side1 ?side2 A10.out).mono ?_);(case side1=>exact aRa);(case side2=>exact aOx);rintro e w15 ⟨rfl,hi,hb,hk⟩;refine⟨_,rfl,?_⟩;have n_:=zA3 (aAu.trans aLp hk (.inl rfl)) hb hi;clear HK HB HI0;obtain⟨HK,HB,HI0⟩:=n_;clear hi hb hk)|((with_reducible refine aAb (f:=38) rfl ?_);refine aBd (some 24) rfl rfl Try.func38 (by kernel_rfl) rfl #[.pointer (some ⟨g,0,none⟩)] rfl zz3 ?_;(with_reducible refine(aBy.calls g s0_0 jX o8 lB mX uV w0 _ ?side1 ?side2 A11.out).mono ?_);(case side1=>exact aRa);(case side2=>exact aOx);rintro e w16 ⟨rfl,hi,hb,hk⟩;refine⟨_,rfl,?_⟩;have n_:=zA3 (aAu.trans aLp hk (.inl rfl)) hb hi;clear HK HB HI0;obtain⟨HK,HB,HI0⟩:=n_;clear hi hb hk)));go_ret;exact⟨zz9,aRa,aOx,aLp⟩
def aCj.f (aD:Int) (aC:List (S57)) (a1:Int):Option (Bool):=if a1≥0 then(some (decide (a1<aD))) else(some false)
theorem aCj.calls (aD:Int) (aI:Option Addr) (aG:Nat) (aC:List (S57)) (a1:Int) (r:Bool) (w:World) (hr0_1:Kd.C k57 w aI aC.length aC) (hc0_1:aC.length≤aG) (h:aCj.f aD aC a1=some r) :
  Calls Try.prog 103 #[.agg #[.int .i64 aD,.slice aI aC.length aG],.int .i64 a1] w fun e w'=>e = .returned (.bool r)∧Below w.heap.size w w':=by
 have hu25:=Try.underlying25;have b5:=zK_ hr0_1;have bT:=zK_ hc0_1;clear hr0_1 hc0_1;have HB:=zK_ (Below.refl w.heap.size w);have H:(if a1≥0 then(some (decide (a1<aD))) else(some false))=some r:=h;clear h;by_cases c3:a1≥0
 ·rw[if_pos c3]at H;have iQ:decide (0≤a1)=true:=decide_eq_true c3;clear c3;obtain rfl:=Option.some.inj H;go_enter Try.func103,Try.ntmps103;(go_wp2_with (first|((with_reducible refine aAn (N:=2) rfl ?_);refine aAl ?hg (N:=2) ?hd (cs:=#[.int .i64 aD,.slice aI aC.length aG]) (t:=25) ?hr ?_;(case hd=>rfl);(case hg=>rfl);(case hr=>exact aCp);intro aE hg w4 hbox hb;have n_:=zA4 (aA2 zz2 hb) hbox (aDi:w.heap.size≤aE) (aDi:w.heap.size≤aE);clear HB;obtain⟨HB,aA,GW101,GE101⟩:=n_;clear hb hbox hg;have lL:=aC7 aA;have lK:=aC6 aA;have l7:=aA0 aA.out 0;have lF:=aA0 aA.out 1)));go_ret;exact⟨zz9,zz1⟩
 rw[if_neg c3]at H;have iQ:decide (0≤a1)=false:=decide_eq_false c3;clear c3;obtain rfl:=Option.some.inj H;go_enter Try.func103,Try.ntmps103;(go_wp2_with (first|((with_reducible refine aAn (N:=2) rfl ?_);refine aAl ?hg (N:=2) ?hd (cs:=#[.int .i64 aD,.slice aI aC.length aG]) (t:=25) ?hr ?_;(case hd=>rfl);(case hg=>rfl);(case hr=>exact aCp);intro aE hg w6 hbox hb;have n_:=zA4 (aA2 zz2 hb) hbox (aDi:w.heap.size≤aE) (aDi:w.heap.size≤aE);clear HB;obtain⟨HB,aA,GW101,GE101⟩:=n_;clear hb hbox hg)));go_ret;exact⟨zz9,zz1⟩
mutual
def aAg.j0:Nat→Int→Int→Int→Bool→Int→List (S57)→Option (Int)
 | 0,_,_,_,_,_,_=>none
 | k+1,x1,x2,x7,uR,aT,aM=>if uR=true then(some 0) else(aAg.l0 k x1 x2 x7 aM (aM.length:Int) 0)
def aAg.l0:Nat→Int→Int→Int→List (S57)→Int→Int→Option (Int)
 | 0,_,_,_,_,_,_=>none
 | k+1,x1,x2,x7,tB,uK,rA=>if rA<uK then(if 0≤rA then(if rA<(tB.length:Int) then(if((aA4 tB rA).f0)=(mn x1 x2) then(if((aA4 tB rA).f1)=(mx x1 x2) then(aAg.l0 k x1 x2 (wrap64 (x7+1)) tB uK (wrap64 (rA+1))) else(aAg.l0 k x1 x2 x7 tB uK (wrap64 (rA+1)))) else(aAg.l0 k x1 x2 x7 tB uK (wrap64 (rA+1)))) else(none)) else(none)) else(some x7)
end
def aAg.f (k:Nat) (aD:Int) (aC:List (S57)) (a1:Int) (a2:Int):Option (Int):=(aCj.f aD aC a1).bind fun aW=>(if aW=true then((aCj.f aD aC a2).bind fun bH=>(if bH=true then(aAg.j0 k a1 a2 0 (a1==a2) aD aC) else(aAg.j0 k a1 a2 0 true aD aC))) else(aAg.j0 k a1 a2 0 true aD aC))
theorem aAg.mono_l:∀ k,(∀ y0 y1 y2 y3 y4 y5,LeO (aAg.j0 k y0 y1 y2 y3 y4 y5) (aAg.j0 (k+1) y0 y1 y2 y3 y4 y5))∧(∀ y0 y1 y2 y3 y4 y5,LeO (aAg.l0 k y0 y1 y2 y3 y4 y5) (aAg.l0 (k+1) y0 y1 y2 y3 y4 y5))
 | 0=>⟨fun _ _ _ _ _ _ r h=>by simp[aAg.j0]at h,fun _ _ _ _ _ _ r h=>by simp[aAg.l0]at h⟩
 | k+1=>by
  obtain⟨ih0,ih1⟩:=aAg.mono_l k
  refine⟨?_,?_⟩
  ·intro y0 y1 y2 y3 y4 y5
   unfold aAg.j0
   exact zm1
  ·intro y0 y1 y2 y3 y4 y5
   unfold aAg.l0
   exact zm1
theorem aAg.mono:∀ a0 a1 a2 a3 k,LeO (aAg.f k a0 a1 a2 a3) (aAg.f (k+1) a0 a1 a2 a3):=by
 intro a0 a1 a2 a3 k;obtain⟨ih0,ih1⟩:=aAg.mono_l k;unfold aAg.f;exact zm1
theorem aAg.calls (k:Nat) (aD:Int) (aI:Option Addr) (aG:Nat) (aC:List (S57)) (a1:Int) (a2:Int) (r:Int) (w:World) (hr0_1:Kd.C k57 w aI aC.length aC) (hc0_1:aC.length≤aG) (h:aAg.f k aD aC a1 a2=some r) :
  Calls Try.prog 104 #[.agg #[.int .i64 aD,.slice aI aC.length aG],.int .i64 a1,.int .i64 a2] w fun e w'=>e = .returned (.int .i64 r)∧Below w.heap.size w w':=by
 have hu25:=Try.underlying25;have hu57:=Try.underlying57;have b5:=zK_ hr0_1;have bT:=zK_ hc0_1;clear hr0_1 hc0_1;have HB:=zK_ (Below.refl w.heap.size w);have H:((aCj.f aD aC a1).bind fun aW=>(if aW=true then((aCj.f aD aC a2).bind fun bH=>(if bH=true then(aAg.j0 k a1 a2 0 (a1==a2) aD aC) else(aAg.j0 k a1 a2 0 true aD aC))) else(aAg.j0 k a1 a2 0 true aD aC)))=some r:=h;clear h;have HC4:=zK_ H;clear H;go_enter Try.func104,Try.ntmps104;(go_upto_region 2 with (first|((with_reducible refine aAn (N:=3) rfl ?_);(try(refine aBi (by rfl) ?_;dsimp only));refine aAl ?hg (N:=3) ?hd (cs:=#[.int .i64 aD,.slice aI aC.length aG]) (t:=25) ?hr ?_;(case hd=>rfl);(case hg=>rfl);(case hr=>exact aCp);intro aE hg w5 hbox hb;have n_:=zA4 (aA2 zz2 hb) hbox (aDi:w.heap.size≤aE) (aDi:w.heap.size≤aE);clear HB;obtain⟨HB,aA,GW101,GE101⟩:=n_;clear hb hbox hg)));(try simp only[Act.put,List.setIfInBounds_toArray,List.set_cons_zero,List.set_cons_succ]);go_cut [24] (fun v24 wc=>∃ (kq:Nat) (rP:Bool),v24 = .bool rP∧Aside0 (aAg.j0 kq a1 a2 0 rP aD aC=some r)∧Aside0 (kq≤k)∧Aside0 (wc.heap[aE]? = some (.cells #[.int .i64 aD,(.slice aI aC.length aG)] 25 (0,0)))∧Aside0 (Below w.heap.size w wc))
 case first =>
  have H:=HC4.out;clear HC4;obtain⟨aW,A60,H⟩:=zO_ H;(try dsimp only at H);have A6:=zK_ A60;clear A60;by_cases c7:aW=true;rotate_left
  ·replace c7:=Bool.eq_false_iff.mpr c7;subst c7;rw[if_neg (show ¬ (false=true) by decide)]at H;have H':=zK_ H;clear H;have pS:=aC7 aA;have pR:=aC6 aA;have pM:=aA0 aA.out 0;have pL:=aA0 aA.out 1;(go_wp2_with (first|((with_reducible refine aAb (f:=103) rfl ?_);refine aBd (some 12) rfl rfl Try.func103 (by kernel_rfl) rfl #[.agg #[.int .i64 aD,.slice aI aC.length aG],.int .i64 a1] rfl zz3 ?_;(with_reducible refine(aCj.calls aD _ _ aC a1 false _ ?side1 ?side2 A6.out).mono ?_);(case side1=>exact zz5);(case side2=>exact bT.out);rintro e w19 ⟨rfl,hb⟩;refine⟨_,rfl,?_⟩;have n_:=zA2 (aA3 (g:=aE) (o:=.cells #[.int .i64 aD,.slice aI aC.length aG] 25 (0,0)) zz0 hb) (aA2 zz1 hb);clear aA HB;obtain⟨aA,HB⟩:=n_;clear hb)));(go_meet);case rel=>exact⟨_,(true),zz6,H',⟨by first|omega|exact Nat.le_refl _⟩,⟨zz0⟩,⟨zz1⟩⟩
  subst c7;rw[if_pos rfl]at H;obtain⟨bH,A80,H⟩:=zO_ H;(try dsimp only at H);have A8:=zK_ A80;clear A80;by_cases c9:bH=true
  ·subst c9;rw[if_pos rfl]at H;have H':=zK_ H;clear H;have eB:=aC7 aA;have d9:=aC6 aA;have d6:=aA0 aA.out 0;have d5:=aA0 aA.out 1;(go_wp2_with (first|((with_reducible refine aAb (f:=103) rfl ?_);refine aBd (some 12) rfl rfl Try.func103 (by kernel_rfl) rfl #[.agg #[.int .i64 aD,.slice aI aC.length aG],.int .i64 a1] rfl zz3 ?_;(with_reducible refine(aCj.calls aD _ _ aC a1 true _ ?side1 ?side2 A6.out).mono ?_);(case side1=>exact zz5);(case side2=>exact bT.out);rintro e w11 ⟨rfl,hb⟩;refine⟨_,rfl,?_⟩;have n_:=zA2 (aA3 (g:=aE) (o:=.cells #[.int .i64 aD,.slice aI aC.length aG] 25 (0,0)) zz0 hb) (aA2 zz1 hb);clear aA HB;obtain⟨aA,HB⟩:=n_;clear hb;have jM:=aC7 aA;have jL:=aC6 aA;have jE:=aA0 aA.out 0;have jD:=aA0 aA.out 1)|(go_at_call 103;(with_reducible refine(aCj.calls aD _ _ aC a2 true _ ?side1 ?side2 A8.out).mono ?_);(case side1=>exact zz5);(case side2=>exact bT.out);rintro e w13 ⟨rfl,hb⟩;have n_:=zA2 (aA3 (g:=aE) (o:=.cells #[.int .i64 aD,.slice aI aC.length aG] 25 (0,0)) zz0 hb) (aA2 zz1 hb);clear aA HB;obtain⟨aA,HB⟩:=n_;(try clear hb);(try clear hb2);(try clear hk);(try clear hi))));(go_meet);case rel=>exact⟨_,((a1==a2)),zz6,H',⟨by first|omega|exact Nat.le_refl _⟩,⟨zz0⟩,⟨zz1⟩⟩
  replace c9:=Bool.eq_false_iff.mpr c9;subst c9;rw[if_neg (show ¬ (false=true) by decide)]at H;have H':=zK_ H;clear H;have fZ:=aC7 aA;have fY:=aC6 aA;have fX:=aA0 aA.out 0;have fW:=aA0 aA.out 1;(go_wp2_with (first|((with_reducible refine aAb (f:=103) rfl ?_);refine aBd (some 12) rfl rfl Try.func103 (by kernel_rfl) rfl #[.agg #[.int .i64 aD,.slice aI aC.length aG],.int .i64 a1] rfl zz3 ?_;(with_reducible refine(aCj.calls aD _ _ aC a1 true _ ?side1 ?side2 A6.out).mono ?_);(case side1=>exact zz5);(case side2=>exact bT.out);rintro e w15 ⟨rfl,hb⟩;refine⟨_,rfl,?_⟩;have n_:=zA2 (aA3 (g:=aE) (o:=.cells #[.int .i64 aD,.slice aI aC.length aG] 25 (0,0)) zz0 hb) (aA2 zz1 hb);clear aA HB;obtain⟨aA,HB⟩:=n_;clear hb;have oA:=aC7 aA;have n9:=aC6 aA;have n0:=aA0 aA.out 0;have nZ:=aA0 aA.out 1)|(go_at_call 103;(with_reducible refine(aCj.calls aD _ _ aC a2 false _ ?side1 ?side2 A8.out).mono ?_);(case side1=>exact zz5);(case side2=>exact bT.out);rintro e w17 ⟨rfl,hb⟩;have n_:=zA2 (aA3 (g:=aE) (o:=.cells #[.int .i64 aD,.slice aI aC.length aG] 25 (0,0)) zz0 hb) (aA2 zz1 hb);clear aA HB;obtain⟨aA,HB⟩:=n_;(try clear hb);(try clear hb2);(try clear hk);(try clear hi))));(go_meet);case rel=>exact⟨_,(true),zz6,H',⟨by first|omega|exact Nat.le_refl _⟩,⟨zz0⟩,⟨zz1⟩⟩
 case rest =>
  clear HC4;(try clear c1);(try clear p2);(try clear c7);(try clear c9);(try clear c10);(try clear eB);(try clear d9);(try clear jM);(try clear jL);(try clear fZ);(try clear fY);(try clear oA);(try clear n9);(try clear pS);(try clear pR);(try clear d6);(try clear d5);(try clear jE);(try clear jD);(try clear fX);(try clear fW);(try clear n0);(try clear nZ);(try clear pM);(try clear pL);obtain⟨kq,rP,rfl,HA,HJ3,aA,HB⟩:=hcut
  cases kq with
  | zero=>exact absurd HA.out (by simp[aAg.j0])
  | succ kj3 =>
   have H:=HA.out;clear HA;simp only[aAg.j0]at H;by_cases c20:rP=true
   ·subst c20;rw[if_pos rfl]at H;obtain rfl:=Option.some.inj H;go_wp2;go_ret;exact⟨zz9,zz1⟩
   replace c20:=Bool.eq_false_iff.mpr c20;subst c20;rw[if_neg (show ¬ (false=true) by decide)]at H;have H':=zK_ H;clear H;have jK:=aC7 aA;have jJ:=aC6 aA;have jC:=aA0 aA.out 0;have jB:=aA0 aA.out 1;go_wp2;(go_loopg [7,28] kj3 (fun kq v7 v28 w'=>∃ (dI:Int) (dZ:Int),v7 = .int .i64 dI∧v28 = .int .i64 dZ∧Aside0 (aAg.l0 kq a1 a2 dI aC (aC.length:Int) dZ=some r)∧Aside0 (kq≤kj3)∧Aside0 (w'.heap[aE]? = some (.cells #[.int .i64 aD,(.slice aI aC.length aG)] 25 (0,0)))∧Aside0 (Below w.heap.size w w')));case atStart=>exact⟨(0),(0),zz6,zz6,H',⟨Nat.le_refl _⟩,⟨zz0⟩,⟨zz1⟩⟩
   case round =>
    clear H';(try clear c1);(try clear c2);(try clear p2);(try clear c7);(try clear c9);(try clear c10);(try clear c20);(try clear eB);(try clear d9);(try clear jM);(try clear jL);(try clear fZ);(try clear fY);(try clear oA);(try clear n9);(try clear pS);(try clear pR);(try clear jK);(try clear jJ);(try clear d6);(try clear d5);(try clear jE);(try clear jD);(try clear fX);(try clear fW);(try clear n0);(try clear nZ);(try clear pM);(try clear pL);(try clear jC);(try clear jB);(try clear p2);obtain⟨dI,dZ,rfl,rfl,HA,HK2,aA,HB⟩:=hrel
    cases gk with
    | zero=>exact absurd HA.out (by simp[aAg.l0])
    | succ k2 =>
     have H:=HA.out;clear HA;simp only[aAg.l0]at H;by_cases c22:dZ<(aC.length:Int);rotate_left
     ·rw[if_neg c22]at H;have oS:=decide_eq_false c22;clear c22;obtain rfl:=Option.some.inj H;go_wp2;go_ret;exact⟨zz9,zz1⟩
     rw[if_pos c22]at H;have oS:=decide_eq_true c22;clear c22;by_cases c23:0≤dZ;rotate_left
     ·rw[if_neg c23]at H;exact absurd H (by simp)
     rw[if_pos c23]at H;have sO:=decide_eq_true c23;clear c23;by_cases c24:dZ<(aC.length:Int);rotate_left
     ·rw[if_neg c24]at H;exact absurd H (by simp)
     rw[if_pos c24]at H;have t6:=decide_eq_true c24;clear c24;obtain⟨rE,tN⟩:∃ j_:Int,(mn a1 a2)=j_:=⟨_,rfl⟩;(replace H:(if((aA4 aC dZ).f0)=(rE) then(if((aA4 aC dZ).f1)=(mx a1 a2) then(aAg.l0 k2 a1 a2 (wrap64 (dI+1)) aC (aC.length:Int) (wrap64 (dZ+1))) else(aAg.l0 k2 a1 a2 dI aC (aC.length:Int) (wrap64 (dZ+1)))) else(aAg.l0 k2 a1 a2 dI aC (aC.length:Int) (wrap64 (dZ+1))))=some r:=by first|(rw[tN]at H;exact H)|(simp only[tN]at H ⊢;exact H));have JI:(if a2<a1 then a2 else a1)=rE:=tN;by_cases c26:((aA4 aC dZ).f0)=(rE);rotate_left
     ·rw[if_neg c26]at H;have t1:(((aA4 aC dZ).f0)==(rE))=false:=beq_eq_false_iff_ne.mpr c26;have DE:(((aA4 aC dZ).f0) != (rE))=true:=bne_iff_ne.mpr c26;have H':=zK_ H;clear H;have p104:0≤(dZ:Int):=of_decide_eq_true zz4;have q104:dZ<(aC.length:Int):=of_decide_eq_true zz4;obtain⟨fC,e104,bZ,fB⟩:=aCo b5.out dZ p104 q104;cases e104;replace bZ:=(HB.out.cell (World.block_lt_of_cell? w _ bZ)).trans bZ;replace fB:=(HB.out.cell (World.block_lt_of_cell? w _ fB)).trans fB;replace p104:=eq_true p104;replace q104:=eq_true q104;(go_wp2_with (first|((with_reducible refine aAn (N:=9) rfl ?_);(try(refine aBi (by rfl) ?_;dsimp only));refine aAl ?hg (N:=9) ?hd (cs:=#[.int .i64 0,.int .i64 0]) (t:=57) ?hr ?_;(case hd=>rfl);(case hg=>rfl);(case hr=>exact aCp);intro kL hg w35 hbox hb;have n_:=zA7 (aA3 (g:=aE) (o:=.cells #[.int .i64 aD,.slice (some fC) aC.length aG] 25 (0,0)) zz0 hb) (aA2 zz1 hb) hbox (aEg:w.heap.size≤kL) (aEg:w.heap.size≤kL) (by rw[hg];exact Nat.ne_of_lt (aC3 (g:=aE) (o:=.cells #[.int .i64 aD,.slice (some fC) aC.length aG] 25 (0,0)) zz0):aE≠kL) (by rw[hg];exact Nat.ne_of_gt (aC3 (g:=aE) (o:=.cells #[.int .i64 aD,.slice (some fC) aC.length aG] 25 (0,0)) zz0):kL≠aE);clear aA HB;obtain⟨aA,HB,kM,GW105,GE105,eM,cF⟩:=n_;clear hb hbox hg;have yX:=cF.out;have yH:=eM.out;have pO:=aC7 kM;have pN:=aC6 kM;have pI:=aA0 kM.out 0;have pH:=aA0 kM.out 1)));go_roundg k2;(case measure=>have:=HJ3.out;have:=HK2.out;omega);case rel=>exact⟨(dI),(wrap64 (dZ+1)),zz6,zz6,H',⟨aI7⟩,⟨aYr⟩,⟨aTk⟩⟩
     rw[if_pos c26]at H;have t1:(((aA4 aC dZ).f0)==(rE))=true:=beq_iff_eq.mpr c26;have DE:(((aA4 aC dZ).f0) != (rE))=false:=bne_eq_false_iff_eq.mpr c26;clear c26;obtain⟨rD,tM⟩:∃ j_:Int,(mx a1 a2)=j_:=⟨_,rfl⟩;(replace H:(if((aA4 aC dZ).f1)=(rD) then(aAg.l0 k2 a1 a2 (wrap64 (dI+1)) aC (aC.length:Int) (wrap64 (dZ+1))) else(aAg.l0 k2 a1 a2 dI aC (aC.length:Int) (wrap64 (dZ+1))))=some r:=by first|(rw[tM]at H;exact H)|(simp only[tM]at H ⊢;exact H));have JH:(if a1<a2 then a2 else a1)=rD:=tM;by_cases c28:((aA4 aC dZ).f1)=(rD);rotate_left
     ·rw[if_neg c28]at H;have wO:(((aA4 aC dZ).f1)==(rD))=false:=beq_eq_false_iff_ne.mpr c28;have DC:(((aA4 aC dZ).f1) != (rD))=true:=bne_iff_ne.mpr c28;have H':=zK_ H;clear H;have p104:0≤(dZ:Int):=of_decide_eq_true zz4;have q104:dZ<(aC.length:Int):=of_decide_eq_true zz4;obtain⟨fC,e104,bZ,fB⟩:=aCo b5.out dZ p104 q104;cases e104;replace bZ:=(HB.out.cell (World.block_lt_of_cell? w _ bZ)).trans bZ;replace fB:=(HB.out.cell (World.block_lt_of_cell? w _ fB)).trans fB;replace p104:=eq_true p104;replace q104:=eq_true q104;(go_wp2_with (first|((with_reducible refine aAn (N:=9) rfl ?_);(try(refine aBi (by rfl) ?_;dsimp only));refine aAl ?hg (N:=9) ?hd (cs:=#[.int .i64 0,.int .i64 0]) (t:=57) ?hr ?_;(case hd=>rfl);(case hg=>rfl);(case hr=>exact aCp);intro kL hg w32 hbox hb;have n_:=zA7 (aA3 (g:=aE) (o:=.cells #[.int .i64 aD,.slice (some fC) aC.length aG] 25 (0,0)) zz0 hb) (aA2 zz1 hb) hbox (aEg:w.heap.size≤kL) (aEg:w.heap.size≤kL) (by rw[hg];exact Nat.ne_of_lt (aC3 (g:=aE) (o:=.cells #[.int .i64 aD,.slice (some fC) aC.length aG] 25 (0,0)) zz0):aE≠kL) (by rw[hg];exact Nat.ne_of_gt (aC3 (g:=aE) (o:=.cells #[.int .i64 aD,.slice (some fC) aC.length aG] 25 (0,0)) zz0):kL≠aE);clear aA HB;obtain⟨aA,HB,kM,GW105,GE105,eM,cF⟩:=n_;clear hb hbox hg;have M6:=cF.out;have L2:=eM.out;have GD:=aC7 kM;have GC:=aC6 kM;have FA:=aA0 kM.out 0;have E9:=aA0 kM.out 1)));go_roundg k2;(case measure=>have:=HJ3.out;have:=HK2.out;omega);case rel=>exact⟨(dI),(wrap64 (dZ+1)),zz6,zz6,H',⟨aI7⟩,⟨aYr⟩,⟨aTk⟩⟩
     rw[if_pos c28]at H;have wO:(((aA4 aC dZ).f1)==(rD))=true:=beq_iff_eq.mpr c28;have DC:(((aA4 aC dZ).f1) != (rD))=false:=bne_eq_false_iff_eq.mpr c28;clear c28;have H':=zK_ H;clear H;have p104:0≤(dZ:Int):=of_decide_eq_true zz4;have q104:dZ<(aC.length:Int):=of_decide_eq_true zz4;obtain⟨fC,e104,bZ,fB⟩:=aCo b5.out dZ p104 q104;cases e104;replace bZ:=(HB.out.cell (World.block_lt_of_cell? w _ bZ)).trans bZ;replace fB:=(HB.out.cell (World.block_lt_of_cell? w _ fB)).trans fB;replace p104:=eq_true p104;replace q104:=eq_true q104;(go_wp2_with (first|((with_reducible refine aAn (N:=9) rfl ?_);(try(refine aBi (by rfl) ?_;dsimp only));refine aAl ?hg (N:=9) ?hd (cs:=#[.int .i64 0,.int .i64 0]) (t:=57) ?hr ?_;(case hd=>rfl);(case hg=>rfl);(case hr=>exact aCp);intro kL hg w29 hbox hb;have n_:=zA7 (aA3 (g:=aE) (o:=.cells #[.int .i64 aD,.slice (some fC) aC.length aG] 25 (0,0)) zz0 hb) (aA2 zz1 hb) hbox (aEg:w.heap.size≤kL) (aEg:w.heap.size≤kL) (by rw[hg];exact Nat.ne_of_lt (aC3 (g:=aE) (o:=.cells #[.int .i64 aD,.slice (some fC) aC.length aG] 25 (0,0)) zz0):aE≠kL) (by rw[hg];exact Nat.ne_of_gt (aC3 (g:=aE) (o:=.cells #[.int .i64 aD,.slice (some fC) aC.length aG] 25 (0,0)) zz0):kL≠aE);clear aA HB;obtain⟨aA,HB,kM,GW105,GE105,eM,cF⟩:=n_;clear hb hbox hg;have yZ:=cF.out;have yJ:=eM.out;have n8:=aC7 kM;have n7:=aC6 kM;have nY:=aA0 kM.out 0;have nX:=aA0 kM.out 1)));go_roundg k2;(case measure=>have:=HJ3.out;have:=HK2.out;omega);case rel=>exact⟨(wrap64 (dI+1)),(wrap64 (dZ+1)),zz6,zz6,H',⟨aI7⟩,⟨aYr⟩,⟨aTk⟩⟩
end Go.Proofs.Ytnbljcgdgblgoaa.P
end
section
namespace Go.Proofs.Ytnbljcgdgblgoaa.P
open Go.RowKit Go.Proofs.YtnbljcgdgblgoaaW.PrintWords Go.Proofs.YtnbljcgdgblgoaaW.PrintLast Go.Proofs.YtnbljcgdgblgoaaW.PrintMore
attribute [local go_sem] aCt aCr aDb aDa aCa aC9 aCs aCq
def aBx.f (a0:Int) (a1:Int) (a2:Int):Option (Bool):=if a0≥a1 then(some (decide (a0≤a2))) else(some false)
theorem aBx.calls (a0:Int) (a1:Int) (a2:Int) (r:Bool) (w:World) (h:aBx.f a0 a1 a2=some r) :
  Calls Try.prog 56 #[.int .i64 a0,.int .i64 a1,.int .i64 a2] w fun e w'=>e = .returned (.bool r)∧aB8 w w':=by
 have H:(if a0≥a1 then(some (decide (a0≤a2))) else(some false))=some r:=h;clear h;by_cases c4:a0≥a1
 ·rw[if_pos c4]at H;have gJ:decide (a1≤a0)=true:=decide_eq_true c4;clear c4;obtain rfl:=Option.some.inj H;go_enter Try.func56,Try.ntmps56;go_wp2;go_ret;exact⟨zz6,by repeat(first|exact aB8.refl _|apply aB8.step)⟩
 rw[if_neg c4]at H;have gJ:decide (a1≤a0)=false:=decide_eq_false c4;clear c4;obtain rfl:=Option.some.inj H;go_enter Try.func56,Try.ntmps56;go_wp2;go_ret;exact⟨zz6,by repeat(first|exact aB8.refl _|apply aB8.step)⟩
mutual
def aB7.j0:Nat→Bool→Int→List (S57)→Option (Bool)
 | 0,_,_,_=>none
 | k+1,pV,aT,aM=>if pV=true then(some false) else(aB7.l0 k aM (aM.length:Int) 0 aT aM)
def aB7.l0:Nat→List (S57)→Int→Int→Int→List (S57)→Option (Bool)
 | 0,_,_,_,_,_=>none
 | k+1,k6,lZ,lR,aT,aM=>if lR<lZ then(if 0≤lR then(if lR<(k6.length:Int) then((aBx.f ((aA4 k6 lR).f0) 0 (wrap64 (aT-1))).bind fun dT=>(if dT=true then((aBx.f ((aA4 k6 lR).f1) (wrap64 (((aA4 k6 lR).f0)+1)) (wrap64 (aT-1))).bind fun cJ=>(if cJ=true then(aB7.l0 k k6 lZ (wrap64 (lR+1)) aT aM) else(some false))) else(some false))) else(none)) else(none)) else(some true)
end
def aB7.f (k:Nat) (aD:Int) (aC:List (S57)):Option (Bool):=(aBx.f aD 1 6).bind fun aW=>(if aW=true then(aB7.j0 k (decide ((aC.length:Int)>12)) aD aC) else(aB7.j0 k true aD aC))
theorem aB7.mono_l:∀ k,(∀ y0 y1 y2,LeO (aB7.j0 k y0 y1 y2) (aB7.j0 (k+1) y0 y1 y2))∧(∀ y0 y1 y2 y3 y4,LeO (aB7.l0 k y0 y1 y2 y3 y4) (aB7.l0 (k+1) y0 y1 y2 y3 y4))
 | 0=>⟨fun _ _ _ r h=>by simp[aB7.j0]at h,fun _ _ _ _ _ r h=>by simp[aB7.l0]at h⟩
 | k+1=>by
  obtain⟨ih0,ih1⟩:=aB7.mono_l k
  refine⟨?_,?_⟩
  ·intro y0 y1 y2
   unfold aB7.j0
   exact zm1
  ·intro y0 y1 y2 y3 y4
   unfold aB7.l0
   exact zm1
theorem aB7.mono:∀ a0 a1 k,LeO (aB7.f k a0 a1) (aB7.f (k+1) a0 a1):=by
 intro a0 a1 k;obtain⟨ih0,ih1⟩:=aB7.mono_l k;unfold aB7.f;exact zm1
theorem aB7.calls (k:Nat) (aD:Int) (aI:Option Addr) (aG:Nat) (aC:List (S57)) (r:Bool) (w:World) (hr0_1:Kd.C k57 w aI aC.length aC) (hc0_1:aC.length≤aG) (h:aB7.f k aD aC=some r) :
  Calls Try.prog 93 #[.agg #[.int .i64 aD,.slice aI aC.length aG]] w fun e w'=>e = .returned (.bool r)∧Below w.heap.size w w':=by
 have hu25:=Try.underlying25;have hu57:=Try.underlying57;have b5:=zK_ hr0_1;have bT:=zK_ hc0_1;clear hr0_1 hc0_1;have HB:=zK_ (Below.refl w.heap.size w);have H:((aBx.f aD 1 6).bind fun aW=>(if aW=true then(aB7.j0 k (decide ((aC.length:Int)>12)) aD aC) else(aB7.j0 k true aD aC)))=some r:=h;clear h;have HC2:=zK_ H;clear H;go_enter Try.func93,Try.ntmps93;(go_upto_region 1 with (first|((with_reducible refine aAn (N:=1) rfl ?_);(try(refine aBi (by rfl) ?_;dsimp only));refine aAl ?hg (N:=1) ?hd (cs:=#[.int .i64 aD,.slice aI aC.length aG]) (t:=25) ?hr ?_;(case hd=>rfl);(case hg=>rfl);(case hr=>exact aCp);intro aE hg w3 hbox hb;have n_:=zA4 (aA2 zz2 hb) hbox (aDi:w.heap.size≤aE) (aDi:w.heap.size≤aE);clear HB;obtain⟨HB,aA,GW101,GE101⟩:=n_;clear hb hbox hg)));(try simp only[Act.put,List.setIfInBounds_toArray,List.set_cons_zero,List.set_cons_succ]);go_cut [14] (fun v14 wc=>∃ (kq:Nat) (dE:Bool),v14 = .bool dE∧Aside0 (aB7.j0 kq dE aD aC=some r)∧Aside0 (kq≤k)∧Aside0 (wc.heap[aE]? = some (.cells #[.int .i64 aD,(.slice aI aC.length aG)] 25 (0,0)))∧Aside0 (Below w.heap.size w wc))
 case first =>
  have H:=HC2.out;clear HC2;obtain⟨aW,A40,H⟩:=zO_ H;(try dsimp only at H);have A4:=zK_ A40;clear A40;by_cases c5:aW=true
  ·subst c5;rw[if_pos rfl]at H;have H':=zK_ H;clear H;have jT:=aC7 aA;have jS:=aC6 aA;have jR:=aA0 aA.out 0;have jQ:=aA0 aA.out 1;(go_wp2_with (first|((with_reducible refine aAb (f:=56) rfl ?_);refine aBd (some 7) rfl rfl Try.func56 (by kernel_rfl) rfl #[.int .i64 aD,.int .i64 1,.int .i64 6] rfl zz3 ?_;(with_reducible refine(aBx.calls aD 1 6 true _ A4.out).mono ?_);rintro e w' ⟨rfl,⟨nd,rfl⟩⟩;refine⟨_,rfl,?_⟩)));(go_meet);case rel=>exact⟨_,(decide ((aC.length:Int)>12)),zz6,H',⟨by first|omega|exact Nat.le_refl _⟩,⟨zz0⟩,⟨zz1⟩⟩
  replace c5:=Bool.eq_false_iff.mpr c5;subst c5;rw[if_neg (show ¬ (false=true) by decide)]at H;have H':=zK_ H;clear H;have gI:=aC7 aA;have gH:=aC6 aA;have gE:=aA0 aA.out 0;have gD:=aA0 aA.out 1;(go_wp2_with (first|((with_reducible refine aAb (f:=56) rfl ?_);refine aBd (some 7) rfl rfl Try.func56 (by kernel_rfl) rfl #[.int .i64 aD,.int .i64 1,.int .i64 6] rfl zz3 ?_;(with_reducible refine(aBx.calls aD 1 6 false _ A4.out).mono ?_);rintro e w' ⟨rfl,⟨nd,rfl⟩⟩;refine⟨_,rfl,?_⟩)));(go_meet);case rel=>exact⟨_,(true),zz6,H',⟨by first|omega|exact Nat.le_refl _⟩,⟨zz0⟩,⟨zz1⟩⟩
 case rest =>
  clear HC2;(try clear p2);(try clear c5);(try clear jT);(try clear jS);(try clear gI);(try clear gH);(try clear jR);(try clear jQ);(try clear gE);(try clear gD);obtain⟨kq,dE,rfl,HA,HJ1,aA,HB⟩:=hcut
  cases kq with
  | zero=>exact absurd HA.out (by simp[aB7.j0])
  | succ kj1 =>
   have H:=HA.out;clear HA;simp only[aB7.j0]at H;by_cases c8:dE=true
   ·subst c8;rw[if_pos rfl]at H;obtain rfl:=Option.some.inj H;go_wp2;go_ret;exact⟨zz9,zz1⟩
   replace c8:=Bool.eq_false_iff.mpr c8;subst c8;rw[if_neg (show ¬ (false=true) by decide)]at H;have H':=zK_ H;clear H;have gG:=aC7 aA;have gF:=aC6 aA;have gC:=aA0 aA.out 0;have gB:=aA0 aA.out 1;go_wp2;(go_loopg [18] kj1 (fun kq v18 w'=>∃ (cG:Int),v18 = .int .i64 cG∧Aside0 (aB7.l0 kq aC (aC.length:Int) cG aD aC=some r)∧Aside0 (kq≤kj1)∧Aside0 (w'.heap[aE]? = some (.cells #[.int .i64 aD,(.slice aI aC.length aG)] 25 (0,0)))∧Aside0 (Below w.heap.size w w')));case atStart=>exact⟨(0),zz6,H',⟨Nat.le_refl _⟩,⟨zz0⟩,⟨zz1⟩⟩
   case round =>
    clear H';(try clear p2);(try clear c5);(try clear c8);(try clear c9);(try clear jT);(try clear jS);(try clear gI);(try clear gH);(try clear gG);(try clear gF);(try clear jR);(try clear jQ);(try clear gE);(try clear gD);(try clear gC);(try clear gB);(try clear p2);obtain⟨cG,rfl,HA,HK2,aA,HB⟩:=hrel
    cases gk with
    | zero=>exact absurd HA.out (by simp[aB7.l0])
    | succ k2 =>
     have H:=HA.out;clear HA;simp only[aB7.l0]at H;by_cases c10:cG<(aC.length:Int);rotate_left
     ·rw[if_neg c10]at H;have g3:=decide_eq_false c10;clear c10;obtain rfl:=Option.some.inj H;go_wp2;go_ret;exact⟨zz9,zz1⟩
     rw[if_pos c10]at H;have g3:=decide_eq_true c10;clear c10;by_cases c11:0≤cG;rotate_left
     ·rw[if_neg c11]at H;exact absurd H (by simp)
     rw[if_pos c11]at H;have nL:=decide_eq_true c11;clear c11;by_cases c12:cG<(aC.length:Int);rotate_left
     ·rw[if_neg c12]at H;exact absurd H (by simp)
     rw[if_pos c12]at H;have nE:=decide_eq_true c12;clear c12;obtain⟨dT,A130,H⟩:=zO_ H;(try dsimp only at H);have A13:=zK_ A130;clear A130;by_cases c14:dT=true;rotate_left
     ·replace c14:=Bool.eq_false_iff.mpr c14;subst c14;rw[if_neg (show ¬ (false=true) by decide)]at H;obtain rfl:=Option.some.inj H;have p103:0≤(cG:Int):=of_decide_eq_true zz4;have q103:cG<(aC.length:Int):=of_decide_eq_true zz4;obtain⟨bR,e103,aX,bG⟩:=aCo b5.out cG p103 q103;cases e103;replace aX:=(HB.out.cell (World.block_lt_of_cell? w _ aX)).trans aX;replace bG:=(HB.out.cell (World.block_lt_of_cell? w _ bG)).trans bG;replace p103:=eq_true p103;replace q103:=eq_true q103;(go_wp2_with (first|((with_reducible refine aAn (N:=4) rfl ?_);(try(refine aBi (by rfl) ?_;dsimp only));refine aAl ?hg (N:=4) ?hd (cs:=#[.int .i64 0,.int .i64 0]) (t:=57) ?hr ?_;(case hd=>rfl);(case hg=>rfl);(case hr=>exact aCp);intro a7 hg w25 hbox hb;have n_:=zA7 (aA3 (g:=aE) (o:=.cells #[.int .i64 aD,.slice (some bR) aC.length aG] 25 (0,0)) zz0 hb) (aA2 zz1 hb) hbox (aEg:w.heap.size≤a7) (aEg:w.heap.size≤a7) (aLx:aE≠a7) (aLw:a7≠aE);clear aA HB;obtain⟨aA,HB,bE,GW104,GE104,bW,b3⟩:=n_;clear hb hbox hg;have zD:=b3.out;have yN:=bW.out;have pQ:=aC7 bE;have pP:=aC6 bE;have pK:=aA0 bE.out 0;have pJ:=aA0 bE.out 1;have sL:=aC7 aA;have sK:=aC6 aA;have sD:=aA0 aA.out 0;have sC:=aA0 aA.out 1)|((with_reducible refine aAb (f:=56) rfl ?_);refine aBd (some 27) rfl rfl Try.func56 (by kernel_rfl) rfl #[.int .i64 ((aA4 aC cG).f0),.int .i64 0,.int .i64 (wrap64 (aD-1))] rfl zz3 ?_;(with_reducible refine(aBx.calls ((aA4 aC cG).f0) 0 (wrap64 (aD-1)) false _ A13.out).mono ?_);rintro e w' ⟨rfl,⟨nd,rfl⟩⟩;refine⟨_,rfl,?_⟩)));go_ret;exact⟨zz9,aJ2⟩
     subst c14;rw[if_pos rfl]at H;obtain⟨cJ,A150,H⟩:=zO_ H;(try dsimp only at H);have A15:=zK_ A150;clear A150;by_cases c16:cJ=true;rotate_left
     ·replace c16:=Bool.eq_false_iff.mpr c16;subst c16;rw[if_neg (show ¬ (false=true) by decide)]at H;obtain rfl:=Option.some.inj H;have p103:0≤(cG:Int):=of_decide_eq_true zz4;have q103:cG<(aC.length:Int):=of_decide_eq_true zz4;obtain⟨bR,e103,aX,bG⟩:=aCo b5.out cG p103 q103;cases e103;replace aX:=(HB.out.cell (World.block_lt_of_cell? w _ aX)).trans aX;replace bG:=(HB.out.cell (World.block_lt_of_cell? w _ bG)).trans bG;replace p103:=eq_true p103;replace q103:=eq_true q103;(go_wp2_with (first|((with_reducible refine aAn (N:=4) rfl ?_);(try(refine aBi (by rfl) ?_;dsimp only));refine aAl ?hg (N:=4) ?hd (cs:=#[.int .i64 0,.int .i64 0]) (t:=57) ?hr ?_;(case hd=>rfl);(case hg=>rfl);(case hr=>exact aCp);intro a7 hg w21 hbox hb;have n_:=zA7 (aA3 (g:=aE) (o:=.cells #[.int .i64 aD,.slice (some bR) aC.length aG] 25 (0,0)) zz0 hb) (aA2 zz1 hb) hbox (aEg:w.heap.size≤a7) (aEg:w.heap.size≤a7) (aLx:aE≠a7) (aLw:a7≠aE);clear aA HB;obtain⟨aA,HB,bE,GW104,GE104,bW,b3⟩:=n_;clear hb hbox hg;have tG:=b3.out;have tF:=bW.out;have mN:=aC7 bE;have mM:=aC6 bE;have mJ:=aA0 bE.out 0;have mI:=aA0 bE.out 1;have nB:=aC7 aA;have nA:=aC6 aA;have m7:=aA0 aA.out 0;have m6:=aA0 aA.out 1)|((with_reducible refine aAb (f:=56) rfl ?_);refine aBd (some 27) rfl rfl Try.func56 (by kernel_rfl) rfl #[.int .i64 ((aA4 aC cG).f0),.int .i64 0,.int .i64 (wrap64 (aD-1))] rfl zz3 ?_;(with_reducible refine(aBx.calls ((aA4 aC cG).f0) 0 (wrap64 (aD-1)) true _ A13.out).mono ?_);rintro e w' ⟨rfl,⟨nd,rfl⟩⟩;refine⟨_,rfl,?_⟩)|(go_at_call 56;(with_reducible refine(aBx.calls ((aA4 aC cG).f1) (wrap64 (((aA4 aC cG).f0)+1)) (wrap64 (aD-1)) false _ A15.out).mono ?_);rintro e w' ⟨rfl,⟨nd,rfl⟩⟩)));go_ret;exact⟨zz9,aJ2⟩
     subst c16;rw[if_pos rfl]at H;have H':=zK_ H;clear H;have p103:0≤(cG:Int):=of_decide_eq_true zz4;have q103:cG<(aC.length:Int):=of_decide_eq_true zz4;obtain⟨bR,e103,aX,bG⟩:=aCo b5.out cG p103 q103;cases e103;replace aX:=(HB.out.cell (World.block_lt_of_cell? w _ aX)).trans aX;replace bG:=(HB.out.cell (World.block_lt_of_cell? w _ bG)).trans bG;replace p103:=eq_true p103;replace q103:=eq_true q103;(go_wp2_with (first|((with_reducible refine aAn (N:=4) rfl ?_);(try(refine aBi (by rfl) ?_;dsimp only));refine aAl ?hg (N:=4) ?hd (cs:=#[.int .i64 0,.int .i64 0]) (t:=57) ?hr ?_;(case hd=>rfl);(case hg=>rfl);(case hr=>exact aCp);intro a7 hg w17 hbox hb;have n_:=zA7 (aA3 (g:=aE) (o:=.cells #[.int .i64 aD,.slice (some bR) aC.length aG] 25 (0,0)) zz0 hb) (aA2 zz1 hb) hbox (aEg:w.heap.size≤a7) (aEg:w.heap.size≤a7) (aLx:aE≠a7) (aLw:a7≠aE);clear aA HB;obtain⟨aA,HB,bE,GW104,GE104,bW,b3⟩:=n_;clear hb hbox hg;have rX:=b3.out;have rV:=bW.out;have lP:=aC7 bE;have lO:=aC6 bE;have lJ:=aA0 bE.out 0;have lI:=aA0 bE.out 1;have lN:=aC7 aA;have lM:=aC6 aA;have lH:=aA0 aA.out 0;have lG:=aA0 aA.out 1)|((with_reducible refine aAb (f:=56) rfl ?_);refine aBd (some 27) rfl rfl Try.func56 (by kernel_rfl) rfl #[.int .i64 ((aA4 aC cG).f0),.int .i64 0,.int .i64 (wrap64 (aD-1))] rfl zz3 ?_;(with_reducible refine(aBx.calls ((aA4 aC cG).f0) 0 (wrap64 (aD-1)) true _ A13.out).mono ?_);rintro e w' ⟨rfl,⟨nd,rfl⟩⟩;refine⟨_,rfl,?_⟩)|(go_at_call 56;(with_reducible refine(aBx.calls ((aA4 aC cG).f1) (wrap64 (((aA4 aC cG).f0)+1)) (wrap64 (aD-1)) true _ A15.out).mono ?_);rintro e w' ⟨rfl,⟨nd,rfl⟩⟩)));go_roundg k2;(case measure=>have:=HJ1.out;have:=HK2.out;omega);case rel=>exact⟨(wrap64 (cG+1)),zz6,H',⟨by have:=HJ1.out;have:=HK2.out;omega⟩,⟨aRe⟩,⟨aJ2⟩⟩
end Go.Proofs.Ytnbljcgdgblgoaa.P
end
section
namespace Go.Proofs.Ytnbljcgdgblgoaa.P
open Go.RowKit Go.Proofs.YtnbljcgdgblgoaaW.PrintWords Go.Proofs.YtnbljcgdgblgoaaW.PrintLast Go.Proofs.YtnbljcgdgblgoaaW.PrintMore
attribute [local go_sem] aCt aCr aDb aDa aCa aC9 aCs aCq
def aBc.l0:Nat→Int→List Int→Int→Int→Option (Bool)
 | 0,_,_,_,_=>none
 | k+1,x1,x7,x8,x9=>if x9<x8 then(if 0≤x9 then(if x9<(x7.length:Int) then(if(rd x7 x9)=x1 then(some true) else(aBc.l0 k x1 x7 x8 (wrap64 (x9+1)))) else(none)) else(none)) else(some false)
def aBc.f (k:Nat) (l0:List Int) (a1:Int):Option (Bool):=aBc.l0 k a1 l0 (l0.length:Int) 0
theorem aBc.mono_l:∀ k,(∀ y0 y1 y2 y3,LeO (aBc.l0 k y0 y1 y2 y3) (aBc.l0 (k+1) y0 y1 y2 y3))
 | 0=>fun _ _ _ _ r h=>by simp[aBc.l0]at h
 | k+1=>by
  have ih0:=aBc.mono_l k
  ·intro y0 y1 y2 y3
   unfold aBc.l0
   exact zm0
theorem aBc.mono:∀ a0 a1 k,LeO (aBc.f k a0 a1) (aBc.f (k+1) a0 a1):=by
 intro a0 a1 k;have ih0:=aBc.mono_l k;unfold aBc.f;exact zm0
theorem aBc.calls (k:Nat) (A0:Option Addr) (c0:Nat) (l0:List Int) (a1:Int) (r:Bool) (w:World) (hr0:Kd.C (Kd.int .i64) w A0 l0.length l0) (hc0:l0.length≤c0) (h:aBc.f k l0 a1=some r) :
  Calls Try.prog 124 #[.slice A0 l0.length c0,.int .i64 a1] w fun e w'=>e = .returned (.bool r)∧aB8 w w':=by
 have HR0:=zK_ hr0;have HC0:=zK_ hc0;clear hr0 hc0;have H:(aBc.l0 k a1 l0 (l0.length:Int) 0)=some r:=h;clear h;have H':=zK_ H;clear H;go_enter Try.func124,Try.ntmps124;go_wp2;(go_loopg [9] k (fun kq v9 w'=>∃ (dR:Int),v9 = .int .i64 dR∧Aside0 (aBc.l0 kq a1 l0 (l0.length:Int) dR=some r)∧Aside0 (kq≤k)∧aB8 w w'));case atStart=>exact⟨(0),zz6,H',⟨Nat.le_refl _⟩,by repeat(first|exact aB8.refl _|apply aB8.step)⟩
 case round =>
  clear H';(try clear c1);(try clear p2);obtain⟨dR,rfl,HA,HK1,⟨m1,rfl⟩⟩:=hrel
  cases gk with
  | zero=>exact absurd HA.out (by simp[aBc.l0])
  | succ k1 =>
   have H:=HA.out;clear HA;simp only[aBc.l0]at H;by_cases c3:dR<(l0.length:Int);rotate_left
   ·rw[if_neg c3]at H;have iQ:=decide_eq_false c3;clear c3;obtain rfl:=Option.some.inj H;go_wp2;go_ret;exact⟨zz6,by repeat(first|exact aB8.refl _|apply aB8.step)⟩
   rw[if_pos c3]at H;have iQ:=decide_eq_true c3;clear c3;by_cases c4:0≤dR;rotate_left
   ·rw[if_neg c4]at H;exact absurd H (by simp)
   rw[if_pos c4]at H;have gJ:=decide_eq_true c4;clear c4;by_cases c5:dR<(l0.length:Int);rotate_left
   ·rw[if_neg c5]at H;exact absurd H (by simp)
   rw[if_pos c5]at H;have f7:=decide_eq_true c5;clear c5;by_cases c6:(rd l0 dR)=a1
   ·rw[if_pos c6]at H;have kS:((rd l0 dR)==a1)=true:=beq_iff_eq.mpr c6;have oD:((rd l0 dR) != a1)=false:=bne_eq_false_iff_eq.mpr c6;clear c6;obtain rfl:=Option.some.inj H;have p101:0≤(dR:Int):=of_decide_eq_true zz4;have q101:dR<(l0.length:Int):=of_decide_eq_true zz4;obtain⟨dU,e101,bL⟩:=Kd.at_int HR0.out dR p101 q101;cases e101;replace p101:=eq_true p101;replace q101:=eq_true q101;go_wp2;go_ret;exact⟨zz6,by repeat(first|exact aB8.refl _|apply aB8.step)⟩
   rw[if_neg c6]at H;have kS:((rd l0 dR)==a1)=false:=beq_eq_false_iff_ne.mpr c6;have oD:((rd l0 dR) != a1)=true:=bne_iff_ne.mpr c6;have H':=zK_ H;clear H;have p101:0≤(dR:Int):=of_decide_eq_true zz4;have q101:dR<(l0.length:Int):=of_decide_eq_true zz4;obtain⟨dU,e101,bL⟩:=Kd.at_int HR0.out dR p101 q101;cases e101;replace p101:=eq_true p101;replace q101:=eq_true q101;go_wp2;go_roundg k1;(case measure=>have:=HK1.out;omega);case rel=>exact⟨(wrap64 (dR+1)),zz6,H',⟨aG6⟩,by repeat(first|exact aB8.refl _|apply aB8.step)⟩
mutual
def aAo.l0:Nat→List Int→Int→Int→List (S57)→Option (List Int)
 | 0,_,_,_,_=>none
 | k+1,x3,x4,aT,aM=>if x4<(x3.length:Int) then(aAo.l1 k x3 x4 aM (aM.length:Int) 0 aT aM) else(some x3)
def aAo.l1:Nat→List Int→Int→List (S57)→Int→Int→Int→List (S57)→Option (List Int)
 | 0,_,_,_,_,_,_,_=>none
 | k+1,x3,x4,mW,k6,lZ,aT,aM=>if lZ<k6 then(if 0≤lZ then(if lZ<(mW.length:Int) then(if 0≤x4 then(if x4<(x3.length:Int) then(if((aA4 mW lZ).f0)=(rd x3 x4) then((aBc.f k x3 ((aA4 mW lZ).f1)).bind fun f5=>(aAo.j2 k x3 x4 mW k6 lZ (!f5) aT aM ((aA4 mW lZ).f0) ((aA4 mW lZ).f1))) else(aAo.j2 k x3 x4 mW k6 lZ false aT aM ((aA4 mW lZ).f0) ((aA4 mW lZ).f1))) else(none)) else(none)) else(none)) else(none)) else(aAo.l0 k x3 (wrap64 (x4+1)) aT aM)
def aAo.j2:Nat→List Int→Int→List (S57)→Int→Int→Bool→Int→List (S57)→Int→Int→Option (List Int)
 | 0,_,_,_,_,_,_,_,_,_,_=>none
 | k+1,x3,x4,mW,k6,lZ,OA,aT,aM,fU,gO=>if OA=true then(if x3.length<17592186044416 then((some (x3++[gO]:List Int)).bind fun dD=>(if 0≤x4 then(if x4<(dD.length:Int) then(if gO=(rd dD x4) then((aBc.f k dD fU).bind fun lB=>(if lB=true then(aAo.l1 k dD x4 mW k6 (wrap64 (lZ+1)) aT aM) else(if dD.length<17592186044416 then(aAo.l1 k (dD++[fU]) x4 mW k6 (wrap64 (lZ+1)) aT aM) else(none)))) else(aAo.l1 k dD x4 mW k6 (wrap64 (lZ+1)) aT aM)) else(none)) else(none))) else(none)) else(if 0≤x4 then(if x4<(x3.length:Int) then(if gO=(rd x3 x4) then((aBc.f k x3 fU).bind fun oC=>(if oC=true then(aAo.l1 k x3 x4 mW k6 (wrap64 (lZ+1)) aT aM) else(if x3.length<17592186044416 then(aAo.l1 k (x3++[fU]) x4 mW k6 (wrap64 (lZ+1)) aT aM) else(none)))) else(aAo.l1 k x3 x4 mW k6 (wrap64 (lZ+1)) aT aM)) else(none)) else(none))
end
def aAo.f (k:Nat) (aD:Int) (aC:List (S57)):Option (List Int):=aAo.l0 k (([0]:List Int)) 0 aD aC
theorem aAo.mono_l:∀ k,(∀ y0 y1 y2 y3,LeO (aAo.l0 k y0 y1 y2 y3) (aAo.l0 (k+1) y0 y1 y2 y3))∧(∀ y0 y1 y2 y3 y4 y5 y6,LeO (aAo.l1 k y0 y1 y2 y3 y4 y5 y6) (aAo.l1 (k+1) y0 y1 y2 y3 y4 y5 y6))∧(∀ y0 y1 y2 y3 y4 y5 y6 y7 y8 y9,LeO (aAo.j2 k y0 y1 y2 y3 y4 y5 y6 y7 y8 y9) (aAo.j2 (k+1) y0 y1 y2 y3 y4 y5 y6 y7 y8 y9))
 | 0=>⟨fun _ _ _ _ r h=>by simp[aAo.l0]at h,fun _ _ _ _ _ _ _ r h=>by simp[aAo.l1]at h,fun _ _ _ _ _ _ _ _ _ _ r h=>by simp[aAo.j2]at h⟩
 | k+1=>by
  obtain⟨ih0,ih1,ih2⟩:=aAo.mono_l k
  refine⟨?_,?_,?_⟩
  ·intro y0 y1 y2 y3
   unfold aAo.l0
   exact zm6
  ·intro y0 y1 y2 y3 y4 y5 y6
   unfold aAo.l1
   exact zm6
  ·intro y0 y1 y2 y3 y4 y5 y6 y7 y8 y9
   unfold aAo.j2
   exact zm6
theorem aAo.mono:∀ a0 a1 k,LeO (aAo.f k a0 a1) (aAo.f (k+1) a0 a1):=by
 intro a0 a1 k;obtain⟨ih0,ih1,ih2⟩:=aAo.mono_l k;unfold aAo.f;exact zm6
theorem aAo.calls (k:Nat) (aD:Int) (aI:Option Addr) (aG:Nat) (aC:List (S57)) (r:List Int) (w:World) (hr0_1:Kd.C k57 w aI aC.length aC) (hc0_1:aC.length≤aG) (h:aAo.f k aD aC=some r) :
  Calls Try.prog 94 #[.agg #[.int .i64 aD,.slice aI aC.length aG]] w fun e w'=>∃ v0_:Value,e = .returned (v0_)∧Kd.R (Kd.int .i64) 3 w' w.heap.size (fun _=>True) v0_ r∧Below w.heap.size w w':=by
 have hu25:=Try.underlying25;have hu57:=Try.underlying57;have b5:=zK_ hr0_1;have bT:=zK_ hc0_1;clear hr0_1 hc0_1;have HB:=zK_ (Below.refl w.heap.size w);have H:(aAo.l0 k (([0]:List Int)) 0 aD aC)=some r:=h;clear h;obtain⟨lX,hy_⟩:∃ y_:List Int,y_=(([0]:List Int)):=⟨_,rfl⟩;(replace H:(aAo.l0 k lX 0 aD aC)=some r:=zzY);have lU:=zK_ hy_;clear hy_;have H':=zK_ H;clear H;go_enter Try.func94,Try.ntmps94;(go_wp2_with (first|((with_reducible refine aAn (N:=1) rfl ?_);refine aAl ?hg (N:=1) ?hd (cs:=#[.int .i64 aD,.slice aI aC.length aG]) (t:=25) ?hr ?_;(case hd=>rfl);(case hg=>rfl);(case hr=>exact aCp);intro aE hg w2 hbox hb;have n_:=zA4 (aA2 zz2 hb) hbox (aDi:w.heap.size≤aE) (aDi:w.heap.size≤aE);clear HB;obtain⟨HB,aA,GW101,GE101⟩:=n_;clear hb hbox hg)|((with_reducible refine aAn (N:=7) rfl ?_);refine Kd.R_lit (Kd.int .i64) _ 3 ?hg (N:=7) ?hd (xs:=([0]:List Int)) (inner:=[.int .i64 0]) (ok:=fun _=>True) (okp:=fun _=>True) ?hr ?hp (fun _ hk=>hk) trivial (Below.refl _ _) (Nat.le_refl _) (by simp) ?_;(case hd=>rfl);(case hg=>rfl);(case hr=>exact aCp);(case hp=>exact(aDs.one (show Kd.M (Kd.int .i64) _ _ _ 0 [.int .i64 0] from rfl) (aDs.none _ _)));intro v103 w3 ho4 hb hg_ hnew_;clear hg_ hnew_;(first|rw[← lU.out]at ho4|(simp only[Int.reduceToNat]at ho4;rw[← lU.out]at ho4));have n_:=zA3 (Kd.R_lower ho4 (aAd zz1)) (aA3 (g:=aE) (o:=.cells #[.int .i64 aD,.slice aI aC.length aG] 25 (0,0)) zz0 hb) (aA2 zz1 hb);clear aA HB;obtain⟨dB,aA,HB⟩:=n_;clear hb ho4)));(repeat(go_quiet (first|((with_reducible refine aAn (N:=1) rfl ?_);refine aAl ?hg (N:=1) ?hd (cs:=#[.int .i64 aD,.slice aI aC.length aG]) (t:=25) ?hr ?_;(case hd=>rfl);(case hg=>rfl);(case hr=>exact aCp);intro aE hg w2 hbox hb;have n_:=zA4 (aA2 zz2 hb) hbox (aDi:w.heap.size≤aE) (aDi:w.heap.size≤aE);clear HB;obtain⟨HB,aA,GW101,GE101⟩:=n_;clear hb hbox hg)|((with_reducible refine aAn (N:=7) rfl ?_);refine Kd.R_lit (Kd.int .i64) _ 3 ?hg (N:=7) ?hd (xs:=([0]:List Int)) (inner:=[.int .i64 0]) (ok:=fun _=>True) (okp:=fun _=>True) ?hr ?hp (fun _ hk=>hk) trivial (Below.refl _ _) (Nat.le_refl _) (by simp) ?_;(case hd=>rfl);(case hg=>rfl);(case hr=>exact aCp);(case hp=>exact(aDs.one (show Kd.M (Kd.int .i64) _ _ _ 0 [.int .i64 0] from rfl) (aDs.none _ _)));intro v103 w3 ho4 hb hg_ hnew_;clear hg_ hnew_;(first|rw[← lU.out]at ho4|(simp only[Int.reduceToNat]at ho4;rw[← lU.out]at ho4));have n_:=zA3 (Kd.R_lower ho4 (aAd zz1)) (aA3 (g:=aE) (o:=.cells #[.int .i64 aD,.slice aI aC.length aG] 25 (0,0)) zz0 hb) (aA2 zz1 hb);clear aA HB;obtain⟨dB,aA,HB⟩:=n_;clear hb ho4));try go_wp2_with (first|((with_reducible refine aAn (N:=1) rfl ?_);refine aAl ?hg (N:=1) ?hd (cs:=#[.int .i64 aD,.slice aI aC.length aG]) (t:=25) ?hr ?_;(case hd=>rfl);(case hg=>rfl);(case hr=>exact aCp);intro aE hg w2 hbox hb;have n_:=zA4 (aA2 zz2 hb) hbox (aDi:w.heap.size≤aE) (aDi:w.heap.size≤aE);clear HB;obtain⟨HB,aA,GW101,GE101⟩:=n_;clear hb hbox hg)|((with_reducible refine aAn (N:=7) rfl ?_);refine Kd.R_lit (Kd.int .i64) _ 3 ?hg (N:=7) ?hd (xs:=([0]:List Int)) (inner:=[.int .i64 0]) (ok:=fun _=>True) (okp:=fun _=>True) ?hr ?hp (fun _ hk=>hk) trivial (Below.refl _ _) (Nat.le_refl _) (by simp) ?_;(case hd=>rfl);(case hg=>rfl);(case hr=>exact aCp);(case hp=>exact(aDs.one (show Kd.M (Kd.int .i64) _ _ _ 0 [.int .i64 0] from rfl) (aDs.none _ _)));intro v103 w3 ho4 hb hg_ hnew_;clear hg_ hnew_;(first|rw[← lU.out]at ho4|(simp only[Int.reduceToNat]at ho4;rw[← lU.out]at ho4));have n_:=zA3 (Kd.R_lower ho4 (aAd zz1)) (aA3 (g:=aE) (o:=.cells #[.int .i64 aD,.slice aI aC.length aG] 25 (0,0)) zz0 hb) (aA2 zz1 hb);clear aA HB;obtain⟨dB,aA,HB⟩:=n_;clear hb ho4))));(go_loopg [3,4] k (fun kq v3 v4 w'=>∃ (dS:List Int) (bF:Int),v4 = .int .i64 bF∧Aside0 (aAo.l0 kq dS bF aD aC=some r)∧Aside0 (kq≤k)∧Aside0 (Kd.R (Kd.int .i64) 3 w' w.heap.size (fun _=>True) v3 dS)∧Aside0 (w'.heap[aE]? = some (.cells #[.int .i64 aD,(.slice aI aC.length aG)] 25 (0,0)))∧Aside0 (Below w.heap.size w w')));case atStart=>exact⟨(lX),(0),zz6,H',⟨Nat.le_refl _⟩,⟨aO5⟩,⟨zz0⟩,⟨zz1⟩⟩
 case round =>
  clear H';(try clear p2);obtain⟨dS,bF,rfl,HA,HK1,bU,aA,HB⟩:=hrel
  cases gk with
  | zero=>exact absurd HA.out (by simp[aAo.l0])
  | succ k1 =>
   have H:=HA.out;clear HA;simp only[aAo.l0]at H;by_cases c5:bF<(dS.length:Int);rotate_left
   ·rw[if_neg c5]at H;have f7:=decide_eq_false c5;clear c5;obtain rfl:=Option.some.inj H;obtain⟨Ao65,co65,vU⟩:=Kd.R_slice bU.out;subst vU;go_wp2;(repeat(go_quiet (fail);try go_wp2));go_ret;exact⟨_,zz9,aHu,zz1⟩
   rw[if_pos c5]at H;have f7:=decide_eq_true c5;clear c5;have H':=zK_ H;clear H;obtain⟨Ao6,co6,OJ⟩:=Kd.R_slice bU.out;subst OJ;have gI:=aC7 aA;have gH:=aC6 aA;have gE:=aA0 aA.out 0;have gD:=aA0 aA.out 1;go_wp2;(repeat(go_quiet (fail);try go_wp2));(go_loopg [3,17] k1 (fun kq v3 v17 w'=>∃ (dV:List Int) (aZ:Int),v17 = .int .i64 aZ∧Aside0 (aAo.l1 kq dV bF aC (aC.length:Int) aZ aD aC=some r)∧Aside0 (kq≤k1)∧Aside0 (Kd.R (Kd.int .i64) 3 w' w.heap.size (fun _=>True) v3 dV)∧Aside0 (w'.heap[aE]? = some (.cells #[.int .i64 aD,(.slice aI aC.length aG)] 25 (0,0)))∧Aside0 (Below w.heap.size w w')));case atStart=>exact⟨(dS),(0),zz6,H',⟨Nat.le_refl _⟩,⟨aHu⟩,⟨zz0⟩,⟨zz1⟩⟩
   case round =>
    clear H';(try clear p2);(try clear c5);(try clear f7);(try clear gI);(try clear gH);(try clear gE);(try clear gD);(try clear p2);obtain⟨dV,aZ,rfl,HA,HK2,bU,aA,HB⟩:=hrel
    cases gk with
    | zero=>exact absurd HA.out (by simp[aAo.l1])
    | succ k2 =>
     have H:=HA.out;clear HA;simp only[aAo.l1]at H;by_cases c8:aZ<(aC.length:Int);rotate_left
     ·rw[if_neg c8]at H;have iH:=decide_eq_false c8;clear c8;have H':=zK_ H;clear H;go_wp2;(repeat(go_quiet (fail);try go_wp2));go_roundg k2;(case measure=>have:=HK1.out;have:=HK2.out;omega);case rel=>exact⟨(dV),(wrap64 (bF+1)),zz6,H',⟨aGi⟩,⟨aHu⟩,⟨zz0⟩,⟨zz1⟩⟩
     rw[if_pos c8]at H;have iH:=decide_eq_true c8;clear c8;by_cases c9:0≤aZ;rotate_left
     ·rw[if_neg c9]at H;exact absurd H (by simp)
     rw[if_pos c9]at H;have iZ:=decide_eq_true c9;clear c9;by_cases c10:aZ<(aC.length:Int);rotate_left
     ·rw[if_neg c10]at H;exact absurd H (by simp)
     rw[if_pos c10]at H;have g3:=decide_eq_true c10;clear c10;have HC11:=zK_ H;clear H;have p105:0≤(aZ:Int):=of_decide_eq_true zz4;have q105:aZ<(aC.length:Int):=of_decide_eq_true zz4;obtain⟨dP,e105,bV,dC⟩:=aCo b5.out aZ p105 q105;cases e105;replace bV:=(HB.out.cell (World.block_lt_of_cell? w _ bV)).trans bV;replace dC:=(HB.out.cell (World.block_lt_of_cell? w _ dC)).trans dC;replace p105:=eq_true p105;replace q105:=eq_true q105;(go_upto_region 8 with (first|((with_reducible refine aAn (N:=6) rfl ?_);refine aAl ?hg (N:=6) ?hd (cs:=#[.int .i64 0,.int .i64 0]) (t:=57) ?hr ?_;(case hd=>rfl);(case hg=>rfl);(case hr=>exact aCp);intro bI hg w12 hbox hb;have n_:=zA8 (Kd.R_below aHu hb) (aA3 (g:=aE) (o:=.cells #[.int .i64 aD,.slice (some dP) aC.length aG] 25 (0,0)) zz0 hb) (aA2 zz1 hb) hbox (aEg:w.heap.size≤bI) (aEg:w.heap.size≤bI) (by rw[hg];exact Nat.ne_of_lt (aC3 (g:=aE) (o:=.cells #[.int .i64 aD,.slice (some dP) aC.length aG] 25 (0,0)) zz0):aE≠bI) (by rw[hg];exact Nat.ne_of_gt (aC3 (g:=aE) (o:=.cells #[.int .i64 aD,.slice (some dP) aC.length aG] 25 (0,0)) zz0):bI≠aE);clear bU aA HB;obtain⟨bU,aA,HB,aN,GW106,GE106,cO,dA⟩:=n_;clear hb hbox hg;have qC:=dA.out;have qB:=cO.out;have fZ:=aC7 aN;have fY:=aC6 aN;have fX:=aA0 aN.out 0;have fW:=aA0 aN.out 1)));(repeat(go_quiet (first|((with_reducible refine aAn (N:=6) rfl ?_);refine aAl ?hg (N:=6) ?hd (cs:=#[.int .i64 0,.int .i64 0]) (t:=57) ?hr ?_;(case hd=>rfl);(case hg=>rfl);(case hr=>exact aCp);intro bI hg w12 hbox hb;have n_:=zA8 (Kd.R_below aHu hb) (aA3 (g:=aE) (o:=.cells #[.int .i64 aD,.slice (some dP) aC.length aG] 25 (0,0)) zz0 hb) (aA2 zz1 hb) hbox (aEg:w.heap.size≤bI) (aEg:w.heap.size≤bI) (by rw[hg];exact Nat.ne_of_lt (aC3 (g:=aE) (o:=.cells #[.int .i64 aD,.slice (some dP) aC.length aG] 25 (0,0)) zz0):aE≠bI) (by rw[hg];exact Nat.ne_of_gt (aC3 (g:=aE) (o:=.cells #[.int .i64 aD,.slice (some dP) aC.length aG] 25 (0,0)) zz0):bI≠aE);clear bU aA HB;obtain⟨bU,aA,HB,aN,GW106,GE106,cO,dA⟩:=n_;clear hb hbox hg;have qC:=dA.out;have qB:=cO.out;have fZ:=aC7 aN;have fY:=aC6 aN;have fX:=aA0 aN.out 0;have fW:=aA0 aN.out 1));go_upto_region 8 with (first|((with_reducible refine aAn (N:=6) rfl ?_);refine aAl ?hg (N:=6) ?hd (cs:=#[.int .i64 0,.int .i64 0]) (t:=57) ?hr ?_;(case hd=>rfl);(case hg=>rfl);(case hr=>exact aCp);intro bI hg w12 hbox hb;have n_:=zA8 (Kd.R_below aHu hb) (aA3 (g:=aE) (o:=.cells #[.int .i64 aD,.slice (some dP) aC.length aG] 25 (0,0)) zz0 hb) (aA2 zz1 hb) hbox (aEg:w.heap.size≤bI) (aEg:w.heap.size≤bI) (by rw[hg];exact Nat.ne_of_lt (aC3 (g:=aE) (o:=.cells #[.int .i64 aD,.slice (some dP) aC.length aG] 25 (0,0)) zz0):aE≠bI) (by rw[hg];exact Nat.ne_of_gt (aC3 (g:=aE) (o:=.cells #[.int .i64 aD,.slice (some dP) aC.length aG] 25 (0,0)) zz0):bI≠aE);clear bU aA HB;obtain⟨bU,aA,HB,aN,GW106,GE106,cO,dA⟩:=n_;clear hb hbox hg;have qC:=dA.out;have qB:=cO.out;have fZ:=aC7 aN;have fY:=aC6 aN;have fX:=aA0 aN.out 0;have fW:=aA0 aN.out 1))));(try simp only[Act.put,List.setIfInBounds_toArray,List.set_cons_zero,List.set_cons_succ]);go_cut [34] (fun v34 wc=>∃ (kq:Nat) (o5:Bool),v34 = .bool o5∧Aside0 (aAo.j2 kq dV bF aC (aC.length:Int) aZ o5 aD aC ((aA4 aC aZ).f0) ((aA4 aC aZ).f1)=some r)∧Aside0 (kq≤k2)∧Aside0 (Kd.R (Kd.int .i64) 3 wc w.heap.size (fun _=>True) u3 dV)∧Aside0 (wc.heap[aE]? = some (.cells #[.int .i64 aD,(.slice (some dP) aC.length aG)] 25 (0,0)))∧Aside0 (wc.heap[bI]? = some (.cells #[.int .i64 ((aA4 aC aZ).f0),.int .i64 ((aA4 aC aZ).f1)] 57 (0,0)))∧Aside0 (Below w.heap.size w wc))
     case first =>
      have H:=HC11.out;clear HC11;by_cases c15:0≤bF;rotate_left
      ·rw[if_neg c15]at H;exact absurd H (by simp)
      rw[if_pos c15]at H;have nD:=decide_eq_true c15;clear c15;(first|rw[nD]|(simp only[aE7,aHv];rw[nD])|skip);by_cases c16:bF<(dV.length:Int);rotate_left
      ·rw[if_neg c16]at H;exact absurd H (by simp)
      rw[if_pos c16]at H;have nC:=decide_eq_true c16;clear c16;by_cases c17:((aA4 aC aZ).f0)=(rd dV bF);rotate_left
      ·rw[if_neg c17]at H;have oU:(((aA4 aC aZ).f0)==(rd dV bF))=false:=beq_eq_false_iff_ne.mpr c17;have wR:(((aA4 aC aZ).f0) != (rd dV bF))=true:=bne_iff_ne.mpr c17;have H':=zK_ H;clear H;have tG:=dA.out;have tF:=cO.out;have mN:=aC7 aN;have mM:=aC6 aN;have mJ:=aA0 aN.out 0;have mI:=aA0 aN.out 1;obtain⟨Ao24,co24,xH⟩:=Kd.R_slice bU.out;subst xH;have p107:0≤(bF:Int):=of_decide_eq_true zz4;have q107:bF<(dV.length:Int):=of_decide_eq_true zz4;obtain⟨nF,e107,dL⟩:=Kd.at_int (Kd.R_reads' bU.out).2.2 bF p107 q107;cases e107;have hn107_0:nF.block≠bI:=Kd.own_blk (Kd.R_ne bU.out aN.out (by decide));have hn107_1:nF.block≠bI:=Kd.own_blk (Kd.R_ne bU.out aN.out (by decide));replace dL:=(cell_far (p:=⟨bI,0,none⟩) (by first|(rw[aDf];exact hn107_0)|(show (Addr.add _ _).block≠_;rw[aDf];exact hn107_0)|exact hn107_0) (.int .i64 ((aA4 aC aZ).f0))).trans dL;replace dL:=(cell_far (p:=⟨bI,1,none⟩) (by first|(rw[aDf];exact hn107_1)|(show (Addr.add _ _).block≠_;rw[aDf];exact hn107_1)|exact hn107_1) (.int .i64 ((aA4 aC aZ).f1))).trans dL;(try have hy107_0:=fun (n_:Nat)=>(show ((((w12.drewN n_).setCell ⟨bI,0,none⟩ (.int .i64 ((aA4 aC aZ).f0))).setCell ⟨bI,1,none⟩ (.int .i64 ((aA4 aC aZ).f1)))).cell? _=some _ from dL));clear hn107_0;clear hn107_1;replace p107:=eq_true p107;replace q107:=eq_true q107;go_wp2;(repeat(go_quiet (fail);try go_wp2));(go_meet);case rel=>exact⟨_,(false),zz6,H',⟨by have:=HK1.out;have:=HK2.out;first|omega|exact Nat.le_refl _⟩,⟨aWj⟩,⟨aWd⟩,⟨aWp⟩,⟨aFj⟩⟩
      rw[if_pos c17]at H;have oU:(((aA4 aC aZ).f0)==(rd dV bF))=true:=beq_iff_eq.mpr c17;have wR:(((aA4 aC aZ).f0) != (rd dV bF))=false:=bne_eq_false_iff_eq.mpr c17;clear c17;obtain⟨f5,A180,H⟩:=zO_ H;(try dsimp only at H);have A18:=zK_ A180;clear A180;have H':=zK_ H;clear H;have wL:=dA.out;have wJ:=cO.out;have lN:=aC7 aN;have lM:=aC6 aN;have lH:=aA0 aN.out 0;have lG:=aA0 aN.out 1;obtain⟨Ao21,co21,sV⟩:=Kd.R_slice bU.out;subst sV;have p107:0≤(bF:Int):=of_decide_eq_true zz4;have q107:bF<(dV.length:Int):=of_decide_eq_true zz4;obtain⟨nF,e107,dL⟩:=Kd.at_int (Kd.R_reads' bU.out).2.2 bF p107 q107;cases e107;have hn107_0:nF.block≠bI:=Kd.own_blk (Kd.R_ne bU.out aN.out (by decide));have hn107_1:nF.block≠bI:=Kd.own_blk (Kd.R_ne bU.out aN.out (by decide));replace dL:=(cell_far (p:=⟨bI,0,none⟩) (by first|(rw[aDf];exact hn107_0)|(show (Addr.add _ _).block≠_;rw[aDf];exact hn107_0)|exact hn107_0) (.int .i64 ((aA4 aC aZ).f0))).trans dL;replace dL:=(cell_far (p:=⟨bI,1,none⟩) (by first|(rw[aDf];exact hn107_1)|(show (Addr.add _ _).block≠_;rw[aDf];exact hn107_1)|exact hn107_1) (.int .i64 ((aA4 aC aZ).f1))).trans dL;(try have hy107_0:=fun (n_:Nat)=>(show ((((w12.drewN n_).setCell ⟨bI,0,none⟩ (.int .i64 ((aA4 aC aZ).f0))).setCell ⟨bI,1,none⟩ (.int .i64 ((aA4 aC aZ).f1)))).cell? _=some _ from dL));clear hn107_0;clear hn107_1;replace p107:=eq_true p107;replace q107:=eq_true q107;(go_wp2_with (first|(go_at_call 124;(with_reducible refine(aBc.calls k2 _ _ dV ((aA4 aC aZ).f1) f5 _ ?side1 ?side2 A18.out).mono ?_);(case side1=>refine(Kd.R_reads' (e:=3) (base:=w.heap.size) (ok:=fun k_=>True) (n:=dV.length) (c:=co21) ?_).2.2;exact aYq);(case side2=>exact(Kd.R_reads' bU.out).2.1);rintro e w' ⟨rfl,⟨nd,rfl⟩⟩;(try first|exact⟨rfl,_,World.drewN_drewN _ _ _⟩|exact⟨rfl,_,Eq.trans (World.drewN_drewN _ _ _) (congrArg (World.drewN _) (Nat.add_assoc _ _ _))⟩))));(repeat(go_quiet (first|(go_at_call 124;(with_reducible refine(aBc.calls k2 _ _ dV ((aA4 aC aZ).f1) f5 _ ?side1 ?side2 A18.out).mono ?_);(case side1=>refine(Kd.R_reads' (e:=3) (base:=w.heap.size) (ok:=fun k_=>True) (n:=dV.length) (c:=co21) ?_).2.2;exact aYq);(case side2=>exact(Kd.R_reads' bU.out).2.1);rintro e w' ⟨rfl,⟨nd,rfl⟩⟩;(try first|exact⟨rfl,_,World.drewN_drewN _ _ _⟩|exact⟨rfl,_,Eq.trans (World.drewN_drewN _ _ _) (congrArg (World.drewN _) (Nat.add_assoc _ _ _))⟩)));try go_wp2_with (first|(go_at_call 124;(with_reducible refine(aBc.calls k2 _ _ dV ((aA4 aC aZ).f1) f5 _ ?side1 ?side2 A18.out).mono ?_);(case side1=>refine(Kd.R_reads' (e:=3) (base:=w.heap.size) (ok:=fun k_=>True) (n:=dV.length) (c:=co21) ?_).2.2;exact aYq);(case side2=>exact(Kd.R_reads' bU.out).2.1);rintro e w' ⟨rfl,⟨nd,rfl⟩⟩;(try first|exact⟨rfl,_,World.drewN_drewN _ _ _⟩|exact⟨rfl,_,Eq.trans (World.drewN_drewN _ _ _) (congrArg (World.drewN _) (Nat.add_assoc _ _ _))⟩)))));(go_meet);case rel=>exact⟨_,(!f5),zz6,H',⟨by have:=HK1.out;have:=HK2.out;first|omega|exact Nat.le_refl _⟩,⟨aWj⟩,⟨aWd⟩,⟨aWp⟩,⟨aFj⟩⟩
     case rest =>
      clear HC11;(try clear c1);(try clear p1);(try clear q1);(try clear hx1);(try clear c2);(try clear p2);(try clear c5);(try clear f7);(try clear c8);(try clear iH);(try clear c9);(try clear iZ);(try clear c10);(try clear g3);(try clear p10);(try clear q10);(try clear hx10);(try clear c13);(try clear c15);(try clear nD);(try clear c16);(try clear nC);(try clear c17);(try clear oU);(try clear wR);(try clear c19);(try clear c22);(try clear fZ);(try clear fY);(try clear lN);(try clear lM);(try clear mN);(try clear mM);(try clear gI);(try clear gH);(try clear fX);(try clear fW);(try clear lH);(try clear lG);(try clear mJ);(try clear mI);(try clear gE);(try clear gD);(try clear bV);(try clear dC);(try clear dL);(try clear p105);(try clear p107);(try clear p2);(try clear q105);(try clear q107);obtain⟨kq,o5,rfl,HA,HJ10,bU,aA,aN,HB⟩:=hcut
      cases kq with
      | zero=>exact absurd HA.out (by simp[aAo.j2])
      | succ kj10 =>
       have H:=HA.out;clear HA;simp only[aAo.j2]at H;by_cases c25:o5=true
       ·subst c25;rw[if_pos rfl]at H;by_cases c26:dV.length<17592186044416;rotate_left
        ·rw[if_neg c26]at H;exact absurd H (by simp)
        rw[if_pos c26]at H;have nG:=zK_ c26;clear c26;obtain⟨dD,hy_⟩:∃ y_:List Int,y_=(dV++[((aA4 aC aZ).f1)]):=⟨_,rfl⟩;(replace H:(if 0≤bF then(if bF<(dD.length:Int) then(if((aA4 aC aZ).f1)=(rd dD bF) then((aBc.f kj10 dD ((aA4 aC aZ).f0)).bind fun lB=>(if lB=true then(aAo.l1 kj10 dD bF aC (aC.length:Int) (wrap64 (aZ+1)) aD aC) else(if dD.length<17592186044416 then(aAo.l1 kj10 (dD++[((aA4 aC aZ).f0)]) bF aC (aC.length:Int) (wrap64 (aZ+1)) aD aC) else(none)))) else(aAo.l1 kj10 dD bF aC (aC.length:Int) (wrap64 (aZ+1)) aD aC)) else(none)) else(none))=some r:=zzY);have jU:=zK_ hy_;clear hy_;by_cases c27:0≤bF;rotate_left
        ·rw[if_neg c27]at H;exact absurd H (by simp)
        rw[if_pos c27]at H;have DD:=decide_eq_true c27;clear c27;by_cases c28:bF<(dD.length:Int);rotate_left
        ·rw[if_neg c28]at H;exact absurd H (by simp)
        rw[if_pos c28]at H;have wO:=decide_eq_true c28;clear c28;by_cases c29:((aA4 aC aZ).f1)=(rd dD bF);rotate_left
        ·rw[if_neg c29]at H;have DB:(((aA4 aC aZ).f1)==(rd dD bF))=false:=beq_eq_false_iff_ne.mpr c29;have DA:(((aA4 aC aZ).f1) != (rd dD bF))=true:=bne_iff_ne.mpr c29;have H':=zK_ H;clear H;have yU:=dA.out;have yE:=cO.out;have sH:=aC7 aN;have sG:=aC6 aN;have r9:=aA0 aN.out 0;have r8:=aA0 aN.out 1;(go_wp2_with (first|((with_reducible refine aB4 (b:=.append) (xs:=#[.tmp 35,.tmp 38]) rfl ?_);at_builtin;refine Kd.R_append (Kd.int .i64) (w0:=w) w.heap.size rfl (.tmp 35) (.tmp 38) 26 3 (.int .i64 0) 8 rfl Try.underlying26 aDz rfl (by decide) (by omega) u3 dV ((aA4 aC aZ).f1) [.int .i64 ((aA4 aC aZ).f1)] (fun _=>True) (fun _=>False) rfl rfl ?aP (fun _ hk=>hk.elim) ?aF ?aO ?aB ?aS ?aL ?_;(case aP=>exact rfl);(case aB=>exact aFj);(case aF=>exact(fun _ _=>trivial));(case aO=>exact aHu);(case aS=>exact(aAd aFj));(case aL=>have:=nG.out;omega);intro v110 w46 ho hb hg hat;rw[← jU.out]at ho;have n_:=zA4 (aAk (g:=aE) (o:=.cells #[.int .i64 aD,.slice (some dP) aC.length aG] 25 (0,0)) zz0 hg (Kd.R_ne bU.out aA.out (by decide))) (aAk (g:=bI) (o:=.cells #[.int .i64 ((aA4 aC aZ).f0),.int .i64 ((aA4 aC aZ).f1)] 57 (0,0)) aHx hg (Kd.R_ne bU.out aN.out (by decide))) hb ho;clear aA aN HB bU;obtain⟨aA,aN,HB,cP⟩:=n_;clear ho hb hg hat;have sF:=aC7 aN;have sE:=aC6 aN;have r7:=aA0 aN.out 0;have r6:=aA0 aN.out 1;obtain⟨Ao48,co48,tX⟩:=Kd.R_slice cP.out;subst tX;have p112:0≤(bF:Int):=of_decide_eq_true zz4;have q112:bF<(dD.length:Int):=of_decide_eq_true zz4;obtain⟨mA,e112,j3⟩:=Kd.at_int (Kd.R_reads' cP.out).2.2 bF p112 q112;cases e112;replace p112:=eq_true p112;replace q112:=eq_true q112)));(repeat(go_quiet (first|((with_reducible refine aB4 (b:=.append) (xs:=#[.tmp 35,.tmp 38]) rfl ?_);at_builtin;refine Kd.R_append (Kd.int .i64) (w0:=w) w.heap.size rfl (.tmp 35) (.tmp 38) 26 3 (.int .i64 0) 8 rfl Try.underlying26 aDz rfl (by decide) (by omega) u3 dV ((aA4 aC aZ).f1) [.int .i64 ((aA4 aC aZ).f1)] (fun _=>True) (fun _=>False) rfl rfl ?aP (fun _ hk=>hk.elim) ?aF ?aO ?aB ?aS ?aL ?_;(case aP=>exact rfl);(case aB=>exact aFj);(case aF=>exact(fun _ _=>trivial));(case aO=>exact aHu);(case aS=>exact(aAd aFj));(case aL=>have:=nG.out;omega);intro v110 w46 ho hb hg hat;rw[← jU.out]at ho;have n_:=zA4 (aAk (g:=aE) (o:=.cells #[.int .i64 aD,.slice (some dP) aC.length aG] 25 (0,0)) zz0 hg (Kd.R_ne bU.out aA.out (by decide))) (aAk (g:=bI) (o:=.cells #[.int .i64 ((aA4 aC aZ).f0),.int .i64 ((aA4 aC aZ).f1)] 57 (0,0)) aHx hg (Kd.R_ne bU.out aN.out (by decide))) hb ho;clear aA aN HB bU;obtain⟨aA,aN,HB,cP⟩:=n_;clear ho hb hg hat;have sF:=aC7 aN;have sE:=aC6 aN;have r7:=aA0 aN.out 0;have r6:=aA0 aN.out 1;obtain⟨Ao48,co48,tX⟩:=Kd.R_slice cP.out;subst tX;have p112:0≤(bF:Int):=of_decide_eq_true zz4;have q112:bF<(dD.length:Int):=of_decide_eq_true zz4;obtain⟨mA,e112,j3⟩:=Kd.at_int (Kd.R_reads' cP.out).2.2 bF p112 q112;cases e112;replace p112:=eq_true p112;replace q112:=eq_true q112));try go_wp2_with (first|((with_reducible refine aB4 (b:=.append) (xs:=#[.tmp 35,.tmp 38]) rfl ?_);at_builtin;refine Kd.R_append (Kd.int .i64) (w0:=w) w.heap.size rfl (.tmp 35) (.tmp 38) 26 3 (.int .i64 0) 8 rfl Try.underlying26 aDz rfl (by decide) (by omega) u3 dV ((aA4 aC aZ).f1) [.int .i64 ((aA4 aC aZ).f1)] (fun _=>True) (fun _=>False) rfl rfl ?aP (fun _ hk=>hk.elim) ?aF ?aO ?aB ?aS ?aL ?_;(case aP=>exact rfl);(case aB=>exact aFj);(case aF=>exact(fun _ _=>trivial));(case aO=>exact aHu);(case aS=>exact(aAd aFj));(case aL=>have:=nG.out;omega);intro v110 w46 ho hb hg hat;rw[← jU.out]at ho;have n_:=zA4 (aAk (g:=aE) (o:=.cells #[.int .i64 aD,.slice (some dP) aC.length aG] 25 (0,0)) zz0 hg (Kd.R_ne bU.out aA.out (by decide))) (aAk (g:=bI) (o:=.cells #[.int .i64 ((aA4 aC aZ).f0),.int .i64 ((aA4 aC aZ).f1)] 57 (0,0)) aHx hg (Kd.R_ne bU.out aN.out (by decide))) hb ho;clear aA aN HB bU;obtain⟨aA,aN,HB,cP⟩:=n_;clear ho hb hg hat;have sF:=aC7 aN;have sE:=aC6 aN;have r7:=aA0 aN.out 0;have r6:=aA0 aN.out 1;obtain⟨Ao48,co48,tX⟩:=Kd.R_slice cP.out;subst tX;have p112:0≤(bF:Int):=of_decide_eq_true zz4;have q112:bF<(dD.length:Int):=of_decide_eq_true zz4;obtain⟨mA,e112,j3⟩:=Kd.at_int (Kd.R_reads' cP.out).2.2 bF p112 q112;cases e112;replace p112:=eq_true p112;replace q112:=eq_true q112))));go_roundg kj10;(case measure=>have:=HK1.out;have:=HK2.out;have:=HJ10.out;omega);case rel=>exact⟨(dD),(wrap64 (aZ+1)),zz6,H',⟨by have:=HK1.out;have:=HK2.out;have:=HJ10.out;omega⟩,⟨by(with_reducible repeat(first|apply Kd.R_alloc|apply Kd.R_drewN|apply Kd.R_drew));exact cP.out⟩,⟨zz0⟩,⟨aFj⟩⟩
        rw[if_pos c29]at H;have DB:(((aA4 aC aZ).f1)==(rd dD bF))=true:=beq_iff_eq.mpr c29;have DA:(((aA4 aC aZ).f1) != (rd dD bF))=false:=bne_eq_false_iff_eq.mpr c29;clear c29;obtain⟨lB,A300,H⟩:=zO_ H;(try dsimp only at H);have A30:=zK_ A300;clear A300;by_cases c31:lB=true
        ·subst c31;rw[if_pos rfl]at H;have H':=zK_ H;clear H;have yY:=dA.out;have yI:=cO.out;have sJ:=aC7 aN;have sI:=aC6 aN;have sB:=aA0 aN.out 0;have sA:=aA0 aN.out 1;(go_wp2_with (first|((with_reducible refine aB4 (b:=.append) (xs:=#[.tmp 35,.tmp 38]) rfl ?_);at_builtin;refine Kd.R_append (Kd.int .i64) (w0:=w) w.heap.size rfl (.tmp 35) (.tmp 38) 26 3 (.int .i64 0) 8 rfl Try.underlying26 aDz rfl (by decide) (by omega) u3 dV ((aA4 aC aZ).f1) [.int .i64 ((aA4 aC aZ).f1)] (fun _=>True) (fun _=>False) rfl rfl ?aP (fun _ hk=>hk.elim) ?aF ?aO ?aB ?aS ?aL ?_;(case aP=>exact rfl);(case aB=>exact aFj);(case aF=>exact(fun _ _=>trivial));(case aO=>exact aHu);(case aS=>exact(aAd aFj));(case aL=>have:=nG.out;omega);intro v110 w34 ho hb hg hat;rw[← jU.out]at ho;have n_:=zA4 (aAk (g:=aE) (o:=.cells #[.int .i64 aD,.slice (some dP) aC.length aG] 25 (0,0)) zz0 hg (Kd.R_ne bU.out aA.out (by decide))) (aAk (g:=bI) (o:=.cells #[.int .i64 ((aA4 aC aZ).f0),.int .i64 ((aA4 aC aZ).f1)] 57 (0,0)) aHx hg (Kd.R_ne bU.out aN.out (by decide))) hb ho;clear aA aN HB bU;obtain⟨aA,aN,HB,cP⟩:=n_;clear ho hb hg hat;have kE:=aC7 aN;have kD:=aC6 aN;have j6:=aA0 aN.out 0;have j5:=aA0 aN.out 1;obtain⟨Ao36,co36,tZ⟩:=Kd.R_slice cP.out;subst tZ;have p112:0≤(bF:Int):=of_decide_eq_true zz4;have q112:bF<(dD.length:Int):=of_decide_eq_true zz4;obtain⟨mA,e112,j3⟩:=Kd.at_int (Kd.R_reads' cP.out).2.2 bF p112 q112;cases e112;replace p112:=eq_true p112;replace q112:=eq_true q112)|(go_at_call 124;(with_reducible refine(aBc.calls kj10 _ _ dD ((aA4 aC aZ).f0) true _ ?side1 ?side2 A30.out).mono ?_);(case side1=>exact aVu);(case side2=>exact(Kd.R_reads' cP.out).2.1);rintro e w' ⟨rfl,⟨nd,rfl⟩⟩;(try first|exact⟨rfl,_,World.drewN_drewN _ _ _⟩|exact⟨rfl,_,Eq.trans (World.drewN_drewN _ _ _) (congrArg (World.drewN _) (Nat.add_assoc _ _ _))⟩))));(repeat(go_quiet (first|((with_reducible refine aB4 (b:=.append) (xs:=#[.tmp 35,.tmp 38]) rfl ?_);at_builtin;refine Kd.R_append (Kd.int .i64) (w0:=w) w.heap.size rfl (.tmp 35) (.tmp 38) 26 3 (.int .i64 0) 8 rfl Try.underlying26 aDz rfl (by decide) (by omega) u3 dV ((aA4 aC aZ).f1) [.int .i64 ((aA4 aC aZ).f1)] (fun _=>True) (fun _=>False) rfl rfl ?aP (fun _ hk=>hk.elim) ?aF ?aO ?aB ?aS ?aL ?_;(case aP=>exact rfl);(case aB=>exact aFj);(case aF=>exact(fun _ _=>trivial));(case aO=>exact aHu);(case aS=>exact(aAd aFj));(case aL=>have:=nG.out;omega);intro v110 w34 ho hb hg hat;rw[← jU.out]at ho;have n_:=zA4 (aAk (g:=aE) (o:=.cells #[.int .i64 aD,.slice (some dP) aC.length aG] 25 (0,0)) zz0 hg (Kd.R_ne bU.out aA.out (by decide))) (aAk (g:=bI) (o:=.cells #[.int .i64 ((aA4 aC aZ).f0),.int .i64 ((aA4 aC aZ).f1)] 57 (0,0)) aHx hg (Kd.R_ne bU.out aN.out (by decide))) hb ho;clear aA aN HB bU;obtain⟨aA,aN,HB,cP⟩:=n_;clear ho hb hg hat;have kE:=aC7 aN;have kD:=aC6 aN;have j6:=aA0 aN.out 0;have j5:=aA0 aN.out 1;obtain⟨Ao36,co36,tZ⟩:=Kd.R_slice cP.out;subst tZ;have p112:0≤(bF:Int):=of_decide_eq_true zz4;have q112:bF<(dD.length:Int):=of_decide_eq_true zz4;obtain⟨mA,e112,j3⟩:=Kd.at_int (Kd.R_reads' cP.out).2.2 bF p112 q112;cases e112;replace p112:=eq_true p112;replace q112:=eq_true q112)|(go_at_call 124;(with_reducible refine(aBc.calls kj10 _ _ dD ((aA4 aC aZ).f0) true _ ?side1 ?side2 A30.out).mono ?_);(case side1=>exact aVu);(case side2=>exact(Kd.R_reads' cP.out).2.1);rintro e w' ⟨rfl,⟨nd,rfl⟩⟩;(try first|exact⟨rfl,_,World.drewN_drewN _ _ _⟩|exact⟨rfl,_,Eq.trans (World.drewN_drewN _ _ _) (congrArg (World.drewN _) (Nat.add_assoc _ _ _))⟩)));try go_wp2_with (first|((with_reducible refine aB4 (b:=.append) (xs:=#[.tmp 35,.tmp 38]) rfl ?_);at_builtin;refine Kd.R_append (Kd.int .i64) (w0:=w) w.heap.size rfl (.tmp 35) (.tmp 38) 26 3 (.int .i64 0) 8 rfl Try.underlying26 aDz rfl (by decide) (by omega) u3 dV ((aA4 aC aZ).f1) [.int .i64 ((aA4 aC aZ).f1)] (fun _=>True) (fun _=>False) rfl rfl ?aP (fun _ hk=>hk.elim) ?aF ?aO ?aB ?aS ?aL ?_;(case aP=>exact rfl);(case aB=>exact aFj);(case aF=>exact(fun _ _=>trivial));(case aO=>exact aHu);(case aS=>exact(aAd aFj));(case aL=>have:=nG.out;omega);intro v110 w34 ho hb hg hat;rw[← jU.out]at ho;have n_:=zA4 (aAk (g:=aE) (o:=.cells #[.int .i64 aD,.slice (some dP) aC.length aG] 25 (0,0)) zz0 hg (Kd.R_ne bU.out aA.out (by decide))) (aAk (g:=bI) (o:=.cells #[.int .i64 ((aA4 aC aZ).f0),.int .i64 ((aA4 aC aZ).f1)] 57 (0,0)) aHx hg (Kd.R_ne bU.out aN.out (by decide))) hb ho;clear aA aN HB bU;obtain⟨aA,aN,HB,cP⟩:=n_;clear ho hb hg hat;have kE:=aC7 aN;have kD:=aC6 aN;have j6:=aA0 aN.out 0;have j5:=aA0 aN.out 1;obtain⟨Ao36,co36,tZ⟩:=Kd.R_slice cP.out;subst tZ;have p112:0≤(bF:Int):=of_decide_eq_true zz4;have q112:bF<(dD.length:Int):=of_decide_eq_true zz4;obtain⟨mA,e112,j3⟩:=Kd.at_int (Kd.R_reads' cP.out).2.2 bF p112 q112;cases e112;replace p112:=eq_true p112;replace q112:=eq_true q112)|(go_at_call 124;(with_reducible refine(aBc.calls kj10 _ _ dD ((aA4 aC aZ).f0) true _ ?side1 ?side2 A30.out).mono ?_);(case side1=>exact aVu);(case side2=>exact(Kd.R_reads' cP.out).2.1);rintro e w' ⟨rfl,⟨nd,rfl⟩⟩;(try first|exact⟨rfl,_,World.drewN_drewN _ _ _⟩|exact⟨rfl,_,Eq.trans (World.drewN_drewN _ _ _) (congrArg (World.drewN _) (Nat.add_assoc _ _ _))⟩)))));go_roundg kj10;(case measure=>have:=HK1.out;have:=HK2.out;have:=HJ10.out;omega);case rel=>exact⟨(dD),(wrap64 (aZ+1)),zz6,H',⟨by have:=HK1.out;have:=HK2.out;have:=HJ10.out;omega⟩,⟨by(with_reducible repeat(first|apply Kd.R_alloc|apply Kd.R_drewN|apply Kd.R_drew));exact cP.out⟩,⟨zz0⟩,⟨aFj⟩⟩
        replace c31:=Bool.eq_false_iff.mpr c31;subst c31;rw[if_neg (show ¬ (false=true) by decide)]at H;by_cases c37:dD.length<17592186044416;rotate_left
        ·rw[if_neg c37]at H;exact absurd H (by simp)
        rw[if_pos c37]at H;have uF:=zK_ c37;clear c37;obtain⟨xW,hy_⟩:∃ y_:List Int,y_=(dD++[((aA4 aC aZ).f0)]):=⟨_,rfl⟩;(replace H:(aAo.l1 kj10 xW bF aC (aC.length:Int) (wrap64 (aZ+1)) aD aC)=some r:=zzY);have uC:=zK_ hy_;clear hy_;have H':=zK_ H;clear H;have M4:=dA.out;have L0:=cO.out;have vR:=aC7 aN;have vQ:=aC6 aN;have vG:=aA0 aN.out 0;have vF:=aA0 aN.out 1;(go_wp2_with (first|((with_reducible refine aB4 (b:=.append) (xs:=#[.tmp 35,.tmp 38]) rfl ?_);at_builtin;refine Kd.R_append (Kd.int .i64) (w0:=w) w.heap.size rfl (.tmp 35) (.tmp 38) 26 3 (.int .i64 0) 8 rfl Try.underlying26 aDz rfl (by decide) (by omega) u3 dV ((aA4 aC aZ).f1) [.int .i64 ((aA4 aC aZ).f1)] (fun _=>True) (fun _=>False) rfl rfl ?aP (fun _ hk=>hk.elim) ?aF ?aO ?aB ?aS ?aL ?_;(case aP=>exact rfl);(case aB=>exact aFj);(case aF=>exact(fun _ _=>trivial));(case aO=>exact aHu);(case aS=>exact(aAd aFj));(case aL=>have:=nG.out;omega);intro v110 w40 ho hb hg hat;rw[← jU.out]at ho;have n_:=zA4 (aAk (g:=aE) (o:=.cells #[.int .i64 aD,.slice (some dP) aC.length aG] 25 (0,0)) zz0 hg (Kd.R_ne bU.out aA.out (by decide))) (aAk (g:=bI) (o:=.cells #[.int .i64 ((aA4 aC aZ).f0),.int .i64 ((aA4 aC aZ).f1)] 57 (0,0)) aHx hg (Kd.R_ne bU.out aN.out (by decide))) hb ho;clear aA aN HB bU;obtain⟨aA,aN,HB,cP⟩:=n_;clear ho hb hg hat;have n5:=aC7 aN;have n4:=aC6 aN;have nW:=aA0 aN.out 0;have nV:=aA0 aN.out 1;obtain⟨Ao42,co42,qM⟩:=Kd.R_slice cP.out;subst qM;have p112:0≤(bF:Int):=of_decide_eq_true zz4;have q112:bF<(dD.length:Int):=of_decide_eq_true zz4;obtain⟨mA,e112,j3⟩:=Kd.at_int (Kd.R_reads' cP.out).2.2 bF p112 q112;cases e112;replace p112:=eq_true p112;replace q112:=eq_true q112)|(go_at_call 124;(with_reducible refine(aBc.calls kj10 _ _ dD ((aA4 aC aZ).f0) false _ ?side1 ?side2 A30.out).mono ?_);(case side1=>exact aVu);(case side2=>exact(Kd.R_reads' cP.out).2.1);rintro e w' ⟨rfl,⟨nd,rfl⟩⟩;(try first|exact⟨rfl,_,World.drewN_drewN _ _ _⟩|exact⟨rfl,_,Eq.trans (World.drewN_drewN _ _ _) (congrArg (World.drewN _) (Nat.add_assoc _ _ _))⟩))|((with_reducible refine aB4 (b:=.append) (xs:=#[.tmp 54,.tmp 57]) rfl ?_);at_builtin;refine Kd.R_append (Kd.int .i64) (w0:=w) w.heap.size rfl (.tmp 54) (.tmp 57) 26 3 (.int .i64 0) 8 rfl Try.underlying26 aDz rfl (by decide) (by omega) (.slice (some mA) dD.length co42) dD ((aA4 aC aZ).f0) [.int .i64 ((aA4 aC aZ).f0)] (fun _=>True) (fun _=>False) rfl rfl ?aP (fun _ hk=>hk.elim) ?aF ?aO ?aB ?aS ?aL ?_;(case aP=>exact rfl);(case aB=>exact aFj);(case aF=>exact(fun _ _=>trivial));(case aO=>exact(by(with_reducible repeat(first|apply Kd.R_alloc|apply Kd.R_drewN|apply Kd.R_drew));exact cP.out));(case aS=>exact(aAd aFj));(case aL=>have:=uF.out;omega);intro v115 w43 ho hb hg hat;rw[← uC.out]at ho;have n_:=zA4 (aAk (g:=aE) (o:=.cells #[.int .i64 aD,.slice (some dP) aC.length aG] 25 (0,0)) zz0 hg (Kd.R_ne cP.out aA.out (by decide))) (aAk (g:=bI) (o:=.cells #[.int .i64 ((aA4 aC aZ).f0),.int .i64 ((aA4 aC aZ).f1)] 57 (0,0)) aHx hg (Kd.R_ne cP.out aN.out (by decide))) hb ho;clear aA aN HB cP;obtain⟨aA,aN,HB,uI⟩:=n_;clear ho hb hg hat)));(repeat(go_quiet (first|((with_reducible refine aB4 (b:=.append) (xs:=#[.tmp 35,.tmp 38]) rfl ?_);at_builtin;refine Kd.R_append (Kd.int .i64) (w0:=w) w.heap.size rfl (.tmp 35) (.tmp 38) 26 3 (.int .i64 0) 8 rfl Try.underlying26 aDz rfl (by decide) (by omega) u3 dV ((aA4 aC aZ).f1) [.int .i64 ((aA4 aC aZ).f1)] (fun _=>True) (fun _=>False) rfl rfl ?aP (fun _ hk=>hk.elim) ?aF ?aO ?aB ?aS ?aL ?_;(case aP=>exact rfl);(case aB=>exact aFj);(case aF=>exact(fun _ _=>trivial));(case aO=>exact aHu);(case aS=>exact(aAd aFj));(case aL=>have:=nG.out;omega);intro v110 w40 ho hb hg hat;rw[← jU.out]at ho;have n_:=zA4 (aAk (g:=aE) (o:=.cells #[.int .i64 aD,.slice (some dP) aC.length aG] 25 (0,0)) zz0 hg (Kd.R_ne bU.out aA.out (by decide))) (aAk (g:=bI) (o:=.cells #[.int .i64 ((aA4 aC aZ).f0),.int .i64 ((aA4 aC aZ).f1)] 57 (0,0)) aHx hg (Kd.R_ne bU.out aN.out (by decide))) hb ho;clear aA aN HB bU;obtain⟨aA,aN,HB,cP⟩:=n_;clear ho hb hg hat;have n5:=aC7 aN;have n4:=aC6 aN;have nW:=aA0 aN.out 0;have nV:=aA0 aN.out 1;obtain⟨Ao42,co42,qM⟩:=Kd.R_slice cP.out;subst qM;have p112:0≤(bF:Int):=of_decide_eq_true zz4;have q112:bF<(dD.length:Int):=of_decide_eq_true zz4;obtain⟨mA,e112,j3⟩:=Kd.at_int (Kd.R_reads' cP.out).2.2 bF p112 q112;cases e112;replace p112:=eq_true p112;replace q112:=eq_true q112)|(go_at_call 124;(with_reducible refine(aBc.calls kj10 _ _ dD ((aA4 aC aZ).f0) false _ ?side1 ?side2 A30.out).mono ?_);(case side1=>exact aVu);(case side2=>exact(Kd.R_reads' cP.out).2.1);rintro e w' ⟨rfl,⟨nd,rfl⟩⟩;(try first|exact⟨rfl,_,World.drewN_drewN _ _ _⟩|exact⟨rfl,_,Eq.trans (World.drewN_drewN _ _ _) (congrArg (World.drewN _) (Nat.add_assoc _ _ _))⟩))|((with_reducible refine aB4 (b:=.append) (xs:=#[.tmp 54,.tmp 57]) rfl ?_);at_builtin;refine Kd.R_append (Kd.int .i64) (w0:=w) w.heap.size rfl (.tmp 54) (.tmp 57) 26 3 (.int .i64 0) 8 rfl Try.underlying26 aDz rfl (by decide) (by omega) (.slice (some mA) dD.length co42) dD ((aA4 aC aZ).f0) [.int .i64 ((aA4 aC aZ).f0)] (fun _=>True) (fun _=>False) rfl rfl ?aP (fun _ hk=>hk.elim) ?aF ?aO ?aB ?aS ?aL ?_;(case aP=>exact rfl);(case aB=>exact aFj);(case aF=>exact(fun _ _=>trivial));(case aO=>exact(by(with_reducible repeat(first|apply Kd.R_alloc|apply Kd.R_drewN|apply Kd.R_drew));exact cP.out));(case aS=>exact(aAd aFj));(case aL=>have:=uF.out;omega);intro v115 w43 ho hb hg hat;rw[← uC.out]at ho;have n_:=zA4 (aAk (g:=aE) (o:=.cells #[.int .i64 aD,.slice (some dP) aC.length aG] 25 (0,0)) zz0 hg (Kd.R_ne cP.out aA.out (by decide))) (aAk (g:=bI) (o:=.cells #[.int .i64 ((aA4 aC aZ).f0),.int .i64 ((aA4 aC aZ).f1)] 57 (0,0)) aHx hg (Kd.R_ne cP.out aN.out (by decide))) hb ho;clear aA aN HB cP;obtain⟨aA,aN,HB,uI⟩:=n_;clear ho hb hg hat));try go_wp2_with (first|((with_reducible refine aB4 (b:=.append) (xs:=#[.tmp 35,.tmp 38]) rfl ?_);at_builtin;refine Kd.R_append (Kd.int .i64) (w0:=w) w.heap.size rfl (.tmp 35) (.tmp 38) 26 3 (.int .i64 0) 8 rfl Try.underlying26 aDz rfl (by decide) (by omega) u3 dV ((aA4 aC aZ).f1) [.int .i64 ((aA4 aC aZ).f1)] (fun _=>True) (fun _=>False) rfl rfl ?aP (fun _ hk=>hk.elim) ?aF ?aO ?aB ?aS ?aL ?_;(case aP=>exact rfl);(case aB=>exact aFj);(case aF=>exact(fun _ _=>trivial));(case aO=>exact aHu);(case aS=>exact(aAd aFj));(case aL=>have:=nG.out;omega);intro v110 w40 ho hb hg hat;rw[← jU.out]at ho;have n_:=zA4 (aAk (g:=aE) (o:=.cells #[.int .i64 aD,.slice (some dP) aC.length aG] 25 (0,0)) zz0 hg (Kd.R_ne bU.out aA.out (by decide))) (aAk (g:=bI) (o:=.cells #[.int .i64 ((aA4 aC aZ).f0),.int .i64 ((aA4 aC aZ).f1)] 57 (0,0)) aHx hg (Kd.R_ne bU.out aN.out (by decide))) hb ho;clear aA aN HB bU;obtain⟨aA,aN,HB,cP⟩:=n_;clear ho hb hg hat;have n5:=aC7 aN;have n4:=aC6 aN;have nW:=aA0 aN.out 0;have nV:=aA0 aN.out 1;obtain⟨Ao42,co42,qM⟩:=Kd.R_slice cP.out;subst qM;have p112:0≤(bF:Int):=of_decide_eq_true zz4;have q112:bF<(dD.length:Int):=of_decide_eq_true zz4;obtain⟨mA,e112,j3⟩:=Kd.at_int (Kd.R_reads' cP.out).2.2 bF p112 q112;cases e112;replace p112:=eq_true p112;replace q112:=eq_true q112)|(go_at_call 124;(with_reducible refine(aBc.calls kj10 _ _ dD ((aA4 aC aZ).f0) false _ ?side1 ?side2 A30.out).mono ?_);(case side1=>exact aVu);(case side2=>exact(Kd.R_reads' cP.out).2.1);rintro e w' ⟨rfl,⟨nd,rfl⟩⟩;(try first|exact⟨rfl,_,World.drewN_drewN _ _ _⟩|exact⟨rfl,_,Eq.trans (World.drewN_drewN _ _ _) (congrArg (World.drewN _) (Nat.add_assoc _ _ _))⟩))|((with_reducible refine aB4 (b:=.append) (xs:=#[.tmp 54,.tmp 57]) rfl ?_);at_builtin;refine Kd.R_append (Kd.int .i64) (w0:=w) w.heap.size rfl (.tmp 54) (.tmp 57) 26 3 (.int .i64 0) 8 rfl Try.underlying26 aDz rfl (by decide) (by omega) (.slice (some mA) dD.length co42) dD ((aA4 aC aZ).f0) [.int .i64 ((aA4 aC aZ).f0)] (fun _=>True) (fun _=>False) rfl rfl ?aP (fun _ hk=>hk.elim) ?aF ?aO ?aB ?aS ?aL ?_;(case aP=>exact rfl);(case aB=>exact aFj);(case aF=>exact(fun _ _=>trivial));(case aO=>exact(by(with_reducible repeat(first|apply Kd.R_alloc|apply Kd.R_drewN|apply Kd.R_drew));exact cP.out));(case aS=>exact(aAd aFj));(case aL=>have:=uF.out;omega);intro v115 w43 ho hb hg hat;rw[← uC.out]at ho;have n_:=zA4 (aAk (g:=aE) (o:=.cells #[.int .i64 aD,.slice (some dP) aC.length aG] 25 (0,0)) zz0 hg (Kd.R_ne cP.out aA.out (by decide))) (aAk (g:=bI) (o:=.cells #[.int .i64 ((aA4 aC aZ).f0),.int .i64 ((aA4 aC aZ).f1)] 57 (0,0)) aHx hg (Kd.R_ne cP.out aN.out (by decide))) hb ho;clear aA aN HB cP;obtain⟨aA,aN,HB,uI⟩:=n_;clear ho hb hg hat))));go_roundg kj10;(case measure=>have:=HK1.out;have:=HK2.out;have:=HJ10.out;omega);case rel=>exact⟨(xW),(wrap64 (aZ+1)),zz6,H',⟨by have:=HK1.out;have:=HK2.out;have:=HJ10.out;omega⟩,⟨by(with_reducible repeat(first|apply Kd.R_alloc|apply Kd.R_drewN|apply Kd.R_drew));exact uI.out⟩,⟨zz0⟩,⟨aFj⟩⟩
       replace c25:=Bool.eq_false_iff.mpr c25;subst c25;rw[if_neg (show ¬ (false=true) by decide)]at H;by_cases c49:0≤bF;rotate_left
       ·rw[if_neg c49]at H;exact absurd H (by simp)
       rw[if_pos c49]at H;have NV:=decide_eq_true c49;clear c49;by_cases c50:bF<(dV.length:Int);rotate_left
       ·rw[if_neg c50]at H;exact absurd H (by simp)
       rw[if_pos c50]at H;have wM:=decide_eq_true c50;clear c50;by_cases c51:((aA4 aC aZ).f1)=(rd dV bF);rotate_left
       ·rw[if_neg c51]at H;have sM:(((aA4 aC aZ).f1)==(rd dV bF))=false:=beq_eq_false_iff_ne.mpr c51;have C8:(((aA4 aC aZ).f1) != (rd dV bF))=true:=bne_iff_ne.mpr c51;have H':=zK_ H;clear H;have yS:=dA.out;have yC:=cO.out;have F1:=aC7 aN;have F0:=aC6 aN;have EY:=aA0 aN.out 0;have EX:=aA0 aN.out 1;obtain⟨Ao64,co64,KK⟩:=Kd.R_slice bU.out;subst KK;have p117:0≤(bF:Int):=of_decide_eq_true zz4;have q117:bF<(dV.length:Int):=of_decide_eq_true zz4;obtain⟨qU,e117,rU⟩:=Kd.at_int (Kd.R_reads' bU.out).2.2 bF p117 q117;cases e117;replace p117:=eq_true p117;replace q117:=eq_true q117;go_wp2;(repeat(go_quiet (fail);try go_wp2));go_roundg kj10;(case measure=>have:=HK1.out;have:=HK2.out;have:=HJ10.out;omega);case rel=>exact⟨(dV),(wrap64 (aZ+1)),zz6,H',⟨by have:=HK1.out;have:=HK2.out;have:=HJ10.out;omega⟩,⟨aHu⟩,⟨zz0⟩,⟨aFj⟩⟩
       rw[if_pos c51]at H;have sM:(((aA4 aC aZ).f1)==(rd dV bF))=true:=beq_iff_eq.mpr c51;have C8:(((aA4 aC aZ).f1) != (rd dV bF))=false:=bne_eq_false_iff_eq.mpr c51;clear c51;obtain⟨oC,A520,H⟩:=zO_ H;(try dsimp only at H);have A52:=zK_ A520;clear A520;by_cases c53:oC=true
       ·subst c53;rw[if_pos rfl]at H;have H':=zK_ H;clear H;have MY:=dA.out;have LU:=cO.out;have F7:=aC7 aN;have F6:=aC6 aN;have E4:=aA0 aN.out 0;have E3:=aA0 aN.out 1;obtain⟨Ao56,co56,KP⟩:=Kd.R_slice bU.out;subst KP;have p117:0≤(bF:Int):=of_decide_eq_true zz4;have q117:bF<(dV.length:Int):=of_decide_eq_true zz4;obtain⟨qU,e117,rU⟩:=Kd.at_int (Kd.R_reads' bU.out).2.2 bF p117 q117;cases e117;replace p117:=eq_true p117;replace q117:=eq_true q117;(go_wp2_with (first|(go_at_call 124;(with_reducible refine(aBc.calls kj10 _ _ dV ((aA4 aC aZ).f0) true _ ?side1 ?side2 A52.out).mono ?_);(case side1=>exact aVs);(case side2=>exact(Kd.R_reads' bU.out).2.1);rintro e w' ⟨rfl,⟨nd,rfl⟩⟩;(try first|exact⟨rfl,_,World.drewN_drewN _ _ _⟩|exact⟨rfl,_,Eq.trans (World.drewN_drewN _ _ _) (congrArg (World.drewN _) (Nat.add_assoc _ _ _))⟩))));(repeat(go_quiet (first|(go_at_call 124;(with_reducible refine(aBc.calls kj10 _ _ dV ((aA4 aC aZ).f0) true _ ?side1 ?side2 A52.out).mono ?_);(case side1=>exact aVs);(case side2=>exact(Kd.R_reads' bU.out).2.1);rintro e w' ⟨rfl,⟨nd,rfl⟩⟩;(try first|exact⟨rfl,_,World.drewN_drewN _ _ _⟩|exact⟨rfl,_,Eq.trans (World.drewN_drewN _ _ _) (congrArg (World.drewN _) (Nat.add_assoc _ _ _))⟩)));try go_wp2_with (first|(go_at_call 124;(with_reducible refine(aBc.calls kj10 _ _ dV ((aA4 aC aZ).f0) true _ ?side1 ?side2 A52.out).mono ?_);(case side1=>exact aVs);(case side2=>exact(Kd.R_reads' bU.out).2.1);rintro e w' ⟨rfl,⟨nd,rfl⟩⟩;(try first|exact⟨rfl,_,World.drewN_drewN _ _ _⟩|exact⟨rfl,_,Eq.trans (World.drewN_drewN _ _ _) (congrArg (World.drewN _) (Nat.add_assoc _ _ _))⟩)))));go_roundg kj10;(case measure=>have:=HK1.out;have:=HK2.out;have:=HJ10.out;omega);case rel=>exact⟨(dV),(wrap64 (aZ+1)),zz6,H',⟨by have:=HK1.out;have:=HK2.out;have:=HJ10.out;omega⟩,⟨aHu⟩,⟨zz0⟩,⟨aFj⟩⟩
       replace c53:=Bool.eq_false_iff.mpr c53;subst c53;rw[if_neg (show ¬ (false=true) by decide)]at H;by_cases c57:dV.length<17592186044416;rotate_left
       ·rw[if_neg c57]at H;exact absurd H (by simp)
       rw[if_pos c57]at H;have uE:=zK_ c57;clear c57;obtain⟨mU,hy_⟩:∃ y_:List Int,y_=(dV++[((aA4 aC aZ).f0)]):=⟨_,rfl⟩;(replace H:(aAo.l1 kj10 mU bF aC (aC.length:Int) (wrap64 (aZ+1)) aD aC)=some r:=zzY);have qW:=zK_ hy_;clear hy_;have H':=zK_ H;clear H;have yT:=dA.out;have yD:=cO.out;have vK:=aC7 aN;have vJ:=aC6 aN;have uY:=aA0 aN.out 0;have uX:=aA0 aN.out 1;obtain⟨Ao60,co60,KM⟩:=Kd.R_slice bU.out;subst KM;have p117:0≤(bF:Int):=of_decide_eq_true zz4;have q117:bF<(dV.length:Int):=of_decide_eq_true zz4;obtain⟨qU,e117,rU⟩:=Kd.at_int (Kd.R_reads' bU.out).2.2 bF p117 q117;cases e117;replace p117:=eq_true p117;replace q117:=eq_true q117;(go_wp2_with (first|(go_at_call 124;(with_reducible refine(aBc.calls kj10 _ _ dV ((aA4 aC aZ).f0) false _ ?side1 ?side2 A52.out).mono ?_);(case side1=>exact aVs);(case side2=>exact(Kd.R_reads' bU.out).2.1);rintro e w' ⟨rfl,⟨nd,rfl⟩⟩;(try first|exact⟨rfl,_,World.drewN_drewN _ _ _⟩|exact⟨rfl,_,Eq.trans (World.drewN_drewN _ _ _) (congrArg (World.drewN _) (Nat.add_assoc _ _ _))⟩))|((with_reducible refine aB4 (b:=.append) (xs:=#[.tmp 54,.tmp 57]) rfl ?_);at_builtin;refine Kd.R_append (Kd.int .i64) (w0:=w) w.heap.size rfl (.tmp 54) (.tmp 57) 26 3 (.int .i64 0) 8 rfl Try.underlying26 aDz rfl (by decide) (by omega) (.slice (some qU) dV.length co60) dV ((aA4 aC aZ).f0) [.int .i64 ((aA4 aC aZ).f0)] (fun _=>True) (fun _=>False) rfl rfl ?aP (fun _ hk=>hk.elim) ?aF ?aO ?aB ?aS ?aL ?_;(case aP=>exact rfl);(case aB=>exact aFj);(case aF=>exact(fun _ _=>trivial));(case aO=>exact aHu);(case aS=>exact(aAd aFj));(case aL=>have:=uE.out;omega);intro v120 w61 ho hb hg hat;rw[← qW.out]at ho;have n_:=zA4 (aAk (g:=aE) (o:=.cells #[.int .i64 aD,.slice (some dP) aC.length aG] 25 (0,0)) zz0 hg (Kd.R_ne bU.out aA.out (by decide))) (aAk (g:=bI) (o:=.cells #[.int .i64 ((aA4 aC aZ).f0),.int .i64 ((aA4 aC aZ).f1)] 57 (0,0)) aHx hg (Kd.R_ne bU.out aN.out (by decide))) hb ho;clear aA aN HB bU;obtain⟨aA,aN,HB,lW⟩:=n_;clear ho hb hg hat)));(repeat(go_quiet (first|(go_at_call 124;(with_reducible refine(aBc.calls kj10 _ _ dV ((aA4 aC aZ).f0) false _ ?side1 ?side2 A52.out).mono ?_);(case side1=>exact aVs);(case side2=>exact(Kd.R_reads' bU.out).2.1);rintro e w' ⟨rfl,⟨nd,rfl⟩⟩;(try first|exact⟨rfl,_,World.drewN_drewN _ _ _⟩|exact⟨rfl,_,Eq.trans (World.drewN_drewN _ _ _) (congrArg (World.drewN _) (Nat.add_assoc _ _ _))⟩))|((with_reducible refine aB4 (b:=.append) (xs:=#[.tmp 54,.tmp 57]) rfl ?_);at_builtin;refine Kd.R_append (Kd.int .i64) (w0:=w) w.heap.size rfl (.tmp 54) (.tmp 57) 26 3 (.int .i64 0) 8 rfl Try.underlying26 aDz rfl (by decide) (by omega) (.slice (some qU) dV.length co60) dV ((aA4 aC aZ).f0) [.int .i64 ((aA4 aC aZ).f0)] (fun _=>True) (fun _=>False) rfl rfl ?aP (fun _ hk=>hk.elim) ?aF ?aO ?aB ?aS ?aL ?_;(case aP=>exact rfl);(case aB=>exact aFj);(case aF=>exact(fun _ _=>trivial));(case aO=>exact aHu);(case aS=>exact(aAd aFj));(case aL=>have:=uE.out;omega);intro v120 w61 ho hb hg hat;rw[← qW.out]at ho;have n_:=zA4 (aAk (g:=aE) (o:=.cells #[.int .i64 aD,.slice (some dP) aC.length aG] 25 (0,0)) zz0 hg (Kd.R_ne bU.out aA.out (by decide))) (aAk (g:=bI) (o:=.cells #[.int .i64 ((aA4 aC aZ).f0),.int .i64 ((aA4 aC aZ).f1)] 57 (0,0)) aHx hg (Kd.R_ne bU.out aN.out (by decide))) hb ho;clear aA aN HB bU;obtain⟨aA,aN,HB,lW⟩:=n_;clear ho hb hg hat));try go_wp2_with (first|(go_at_call 124;(with_reducible refine(aBc.calls kj10 _ _ dV ((aA4 aC aZ).f0) false _ ?side1 ?side2 A52.out).mono ?_);(case side1=>exact aVs);(case side2=>exact(Kd.R_reads' bU.out).2.1);rintro e w' ⟨rfl,⟨nd,rfl⟩⟩;(try first|exact⟨rfl,_,World.drewN_drewN _ _ _⟩|exact⟨rfl,_,Eq.trans (World.drewN_drewN _ _ _) (congrArg (World.drewN _) (Nat.add_assoc _ _ _))⟩))|((with_reducible refine aB4 (b:=.append) (xs:=#[.tmp 54,.tmp 57]) rfl ?_);at_builtin;refine Kd.R_append (Kd.int .i64) (w0:=w) w.heap.size rfl (.tmp 54) (.tmp 57) 26 3 (.int .i64 0) 8 rfl Try.underlying26 aDz rfl (by decide) (by omega) (.slice (some qU) dV.length co60) dV ((aA4 aC aZ).f0) [.int .i64 ((aA4 aC aZ).f0)] (fun _=>True) (fun _=>False) rfl rfl ?aP (fun _ hk=>hk.elim) ?aF ?aO ?aB ?aS ?aL ?_;(case aP=>exact rfl);(case aB=>exact aFj);(case aF=>exact(fun _ _=>trivial));(case aO=>exact aHu);(case aS=>exact(aAd aFj));(case aL=>have:=uE.out;omega);intro v120 w61 ho hb hg hat;rw[← qW.out]at ho;have n_:=zA4 (aAk (g:=aE) (o:=.cells #[.int .i64 aD,.slice (some dP) aC.length aG] 25 (0,0)) zz0 hg (Kd.R_ne bU.out aA.out (by decide))) (aAk (g:=bI) (o:=.cells #[.int .i64 ((aA4 aC aZ).f0),.int .i64 ((aA4 aC aZ).f1)] 57 (0,0)) aHx hg (Kd.R_ne bU.out aN.out (by decide))) hb ho;clear aA aN HB bU;obtain⟨aA,aN,HB,lW⟩:=n_;clear ho hb hg hat))));go_roundg kj10;(case measure=>have:=HK1.out;have:=HK2.out;have:=HJ10.out;omega);case rel=>exact⟨(mU),(wrap64 (aZ+1)),zz6,H',⟨by have:=HK1.out;have:=HK2.out;have:=HJ10.out;omega⟩,⟨by(with_reducible repeat(first|apply Kd.R_alloc|apply Kd.R_drewN|apply Kd.R_drew));exact lW.out⟩,⟨zz0⟩,⟨aFj⟩⟩
end Go.Proofs.Ytnbljcgdgblgoaa.P
end
section
namespace Go.Proofs.Ytnbljcgdgblgoaa.P
open Go.RowKit Go.Proofs.YtnbljcgdgblgoaaW.PrintWords Go.Proofs.YtnbljcgdgblgoaaW.PrintLast Go.Proofs.YtnbljcgdgblgoaaW.PrintMore
attribute [local go_sem] aCt aCr aDb aDa aCa aC9 aCs aCq
def aAi.l0:Nat→List (S57)→Int→Int→Int→List (S57)→Option (Bool)
 | 0,_,_,_,_,_=>none
 | k+1,x9,fH,f4,aT,aM=>if f4<fH then(if 0≤f4 then(if f4<(x9.length:Int) then(if f4>0 then(if 0≤(wrap64 (f4-1)) then(if(wrap64 (f4-1))<(aM.length:Int) then(if((aA4 x9 f4).f0)<((aA4 aM (wrap64 (f4-1))).f0) then(some false) else(if((aA4 x9 f4).f0)=((aA4 aM (wrap64 (f4-1))).f0) then(if((aA4 x9 f4).f1)<((aA4 aM (wrap64 (f4-1))).f1) then(some false) else(aAi.l0 k x9 fH (wrap64 (f4+1)) aT aM)) else(aAi.l0 k x9 fH (wrap64 (f4+1)) aT aM))) else(none)) else(none)) else(aAi.l0 k x9 fH (wrap64 (f4+1)) aT aM)) else(none)) else(none)) else((aAo.f k aT aM).bind fun f5=>(some ((f5.length:Int)==aT)))
def aAi.f (k:Nat) (aD:Int) (aC:List (S57)):Option (Bool):=(aB7.f k aD aC).bind fun aW=>(if aW=true then(aAi.l0 k aC (aC.length:Int) 0 aD aC) else(some false))
theorem aAi.mono_l:∀ k,(∀ y0 y1 y2 y3 y4,LeO (aAi.l0 k y0 y1 y2 y3 y4) (aAi.l0 (k+1) y0 y1 y2 y3 y4))
 | 0=>fun _ _ _ _ _ r h=>by simp[aAi.l0]at h
 | k+1=>by
  have ih0:=aAi.mono_l k
  ·intro y0 y1 y2 y3 y4
   unfold aAi.l0
   exact aZh
theorem aAi.mono:∀ a0 a1 k,LeO (aAi.f k a0 a1) (aAi.f (k+1) a0 a1):=by
 intro a0 a1 k;have ih0:=aAi.mono_l k;unfold aAi.f;exact aZh
def aAi.T6:Bool×List (List Nat×List Nat):=(true,[([],[]),([0],[0]),([1],[1]),([2],[2]),([3,2],[2,3]),([2],[2]),([5,2],[2,5]),([2],[2]),([7,2],[2,7]),([6,8,2],[2,6,8]),([9,2],[2,9]),([10,2],[2,10]),([4,11,2],[2,4,11]),([12,2,2],[2,12]),([13],[13]),([14,13],[13,14]),([13],[13]),([16,13],[13,16]),([13],[13]),([18,13],[13,18]),([17,19,13],[13,17,19]),([20,13],[13,20]),([21,13],[13,21]),([15,22,13],[13,15,22]),([23,13,13],[13,23]),([24],[24]),([25,24],[24,25]),([24],[24]),([27,24],[24,27]),([24],[24]),([29,24],[24,29]),([28,30,24],[24,28,30]),([31,24],[24,31]),([32,24],[24,32]),([26,33,24],[24,26,33]),([24,34,13],[13,24,34]),([13,35,2],[2,13,35]),([2,36],[2,36])])
def aAi.B6:List Nat:=[0,1,3,7,15,7,39,7,135,487,999,2023,4095,8191,16383,32767,16383,81919,16383,278527,999423,2047999,4145151,8388607,16777215,33554431,67108863,33554431,167772159,33554431,570425343,2046820351,4194303999,8489271295,17179869183,34359738367,68719476735,137438953471]
theorem aAi.tab6:aFp .any (opsOf Try.f55 6)=aAi.T6:=by kernel_rfl
theorem aAi.bits6:aEa aAi.T6.2 aAi.B6=true:=by kernel_rfl
theorem aAi.calls (k:Nat) (aD:Int) (aI:Option Addr) (aG:Nat) (aC:List (S57)) (r:Bool) (w:World) (hr0_1:Kd.C k57 w aI aC.length aC) (hc0_1:aC.length≤aG) (h:aAi.f k aD aC=some r) :
  Calls Try.prog 55 #[.agg #[.int .i64 aD,.slice aI aC.length aG]] w fun e w'=>e = .returned (.bool r)∧Below w.heap.size w w':=by
 have hu25:=Try.underlying25;have hu57:=Try.underlying57;have b5:=zK_ hr0_1;have bT:=zK_ hc0_1;clear hr0_1 hc0_1;have HB:=zK_ (Below.refl w.heap.size w);have H:((aB7.f k aD aC).bind fun aW=>(if aW=true then(aAi.l0 k aC (aC.length:Int) 0 aD aC) else(some false)))=some r:=h;clear h;obtain⟨aW,A20,H⟩:=zO_ H;(try dsimp only at H);have A2:=zK_ A20;clear A20;by_cases c3:aW=true;rotate_left
 ·replace c3:=Bool.eq_false_iff.mpr c3;subst c3;rw[if_neg (show ¬ (false=true) by decide)]at H;obtain rfl:=Option.some.inj H;go_enter Try.func55,Try.ntmps55;(go_wp2_with (first|((with_reducible refine aAn (N:=1) rfl ?_);refine aAl ?hg (N:=1) ?hd (cs:=#[.int .i64 aD,.slice aI aC.length aG]) (t:=25) ?hr ?_;(case hd=>rfl);(case hg=>rfl);(case hr=>exact aCp);intro aE hg w47 hbox hb;have n_:=zA4 (aA2 zz2 hb) hbox (aDi:w.heap.size≤aE) (aDi:w.heap.size≤aE);clear HB;obtain⟨HB,aA,GW101,GE101⟩:=n_;clear hb hbox hg;have n3:=aC7 aA;have n2:=aC6 aA;have nU:=aA0 aA.out 0;have nT:=aA0 aA.out 1)|((with_reducible refine aAb (f:=93) rfl ?_);refine aBd (some 6) rfl rfl Try.func93 (by kernel_rfl) rfl #[.agg #[.int .i64 aD,.slice aI aC.length aG]] rfl zz3 ?_;(with_reducible refine(aB7.calls k aD _ _ aC false _ ?side1 ?side2 A2.out).mono ?_);(case side1=>exact zz5);(case side2=>exact bT.out);rintro e w49 ⟨rfl,hb⟩;refine⟨_,rfl,?_⟩;have n_:=zA2 (aA3 (g:=aE) (o:=.cells #[.int .i64 aD,.slice aI aC.length aG] 25 (0,0)) zz0 hb) (aA2 zz1 hb);clear aA HB;obtain⟨aA,HB⟩:=n_;clear hb)));go_ret;exact⟨zz9,zz1⟩
 subst c3;rw[if_pos rfl]at H;have H':=zK_ H;clear H;go_enter Try.func55,Try.ntmps55;(go_wp2_with (first|((with_reducible refine aAn (N:=1) rfl ?_);refine aAl ?hg (N:=1) ?hd (cs:=#[.int .i64 aD,.slice aI aC.length aG]) (t:=25) ?hr ?_;(case hd=>rfl);(case hg=>rfl);(case hr=>exact aCp);intro aE hg w4 hbox hb;have n_:=zA4 (aA2 zz2 hb) hbox (aDi:w.heap.size≤aE) (aDi:w.heap.size≤aE);clear HB;obtain⟨HB,aA,GW101,GE101⟩:=n_;clear hb hbox hg;have lL:=aC7 aA;have lK:=aC6 aA;have l7:=aA0 aA.out 0;have lF:=aA0 aA.out 1)|((with_reducible refine aAb (f:=93) rfl ?_);refine aBd (some 6) rfl rfl Try.func93 (by kernel_rfl) rfl #[.agg #[.int .i64 aD,.slice aI aC.length aG]] rfl zz3 ?_;(with_reducible refine(aB7.calls k aD _ _ aC true _ ?side1 ?side2 A2.out).mono ?_);(case side1=>exact zz5);(case side2=>exact bT.out);rintro e w6 ⟨rfl,hb⟩;refine⟨_,rfl,?_⟩;have n_:=zA2 (aA3 (g:=aE) (o:=.cells #[.int .i64 aD,.slice aI aC.length aG] 25 (0,0)) zz0 hb) (aA2 zz1 hb);clear aA HB;obtain⟨aA,HB⟩:=n_;clear hb;have gI:=aC7 aA;have gH:=aC6 aA;have gE:=aA0 aA.out 0;have gD:=aA0 aA.out 1)));(go_loopg [11] k (fun kq v11 w'=>∃ (bB:Int),v11 = .int .i64 bB∧Aside0 (aAi.l0 kq aC (aC.length:Int) bB aD aC=some r)∧Aside0 (kq≤k)∧Aside0 (w'.heap[aE]? = some (.cells #[.int .i64 aD,(.slice aI aC.length aG)] 25 (0,0)))∧Aside0 (Below w.heap.size w w')));case atStart=>exact⟨(0),zz6,H',⟨Nat.le_refl _⟩,⟨zz0⟩,⟨zz1⟩⟩
 case round =>
  clear H';(try clear p2);(try clear c3);(try clear c5);(try clear lL);(try clear lK);(try clear gI);(try clear gH);(try clear l7);(try clear lF);(try clear gE);(try clear gD);obtain⟨bB,rfl,HA,HK1,aA,HB⟩:=hrel
  cases gk with
  | zero=>exact absurd HA.out (by simp[aAi.l0])
  | succ k1 =>
   have H:=HA.out;clear HA;simp only[aAi.l0]at H;by_cases c8:bB<(aC.length:Int);rotate_left
   ·rw[if_neg c8]at H;have iH:=decide_eq_false c8;clear c8;obtain⟨f5,A430,H⟩:=zO_ H;(try dsimp only at H);have A43:=zK_ A430;clear A430;obtain rfl:=Option.some.inj H;(try go_wp2);have n_:=zA2 (aA9 aA.out) (aAs HB.out);clear aA HB;obtain⟨aA,HB⟩:=n_;refine aE5 (n:=7) (S:=fun w'=>w'.cell? ⟨aE,0,none⟩=some (.int .i64 aD)∧w'.cell? ⟨aE,1,none⟩=some (.slice aI aC.length aG)) (ds:=[]) (zM 7 0) (by kernel_rfl) rfl rfl ⟨(blk_cell aA.out 0).trans rfl,(blk_cell aA.out 1).trans rfl⟩ (fun hHeld=>?_);generalize wr.drew=w44 at aA HB hHeld ⊢;refine pure_ (i:=3) (N:=some 58) (v:=?_) (a':=?_) (zM 7 8) rfl rfl (by kernel_rfl) (fun _ _ _ h=>h) (Or.inl ⟨by rfl,?_⟩) ?_ ?_;rotate_left
    ·intro w';exact zzT
    rotate_left
    ·exact zzS
    refine take_ (i:=0) (N:=some 55) (v:=?_) (a':=?_) (zM 7 9) rfl rfl (by kernel_rfl) (fun _ _ _ h=>h) (Or.inl ⟨by rfl,?_⟩) hHeld ?_ ?_;rotate_left
    ·rintro w' ⟨s0,s1⟩;exact zzT
    rotate_left
    ·exact zzS
    refine take_ (i:=4) (N:=some 59) (v:=?_) (a':=?_) (zM 7 25) rfl rfl (by kernel_rfl) (fun _ _ _ h=>h) (Or.inl ⟨by rfl,?_⟩) hHeld ?_ ?_;rotate_left
    ·rintro w' ⟨s0,s1⟩;exact zzT
    rotate_left
    ·exact zzS
    refine aFz (i:=1) (N:=some 56) (zM 7 27) rfl rfl (by kernel_rfl) (by decide) (fun K hK=>?_);refine aF2 Try.func94 (by kernel_rfl) rfl #[.agg #[.int .i64 aD,.slice aI aC.length aG]] (by rfl) rfl rfl zz3 ?_;(with_reducible refine(aAo.calls k1 aD _ _ aC f5 _ ?side1 ?side2 A43.out).mono ?_);(case side1=>exact zz5);(case side2=>exact bT.out);rintro e w45 ⟨v109,rfl,ho0,hb⟩;refine⟨_,rfl,?_⟩;have n_:=zA3 (Kd.R_lower ho0 (aAd zz1)) (aA3 (g:=aE) (o:=.cells #[.int .i64 aD,.slice aI aC.length aG] 25 (0,0)) zz0 hb) (aA2 zz1 hb);clear aA HB;obtain⟨uJ,aA,HB⟩:=n_;clear ho0 hb;obtain⟨Ao46,co46,CS⟩:=Kd.R_slice uJ.out;(first|subst CS|(injection CS with f1_ f2_ f3_;have f4_:=f1_.symm;have f5_:=f3_.symm;clear f1_ f2_ f3_;subst f4_;subst f5_));refine hK.out _ _ ⟨(blk_cell aA.out 0).trans rfl,(blk_cell aA.out 1).trans rfl⟩ (fun hHeld=>?_);clear hK K;refine aDr (a':=?_) ?_ ?_;rotate_left
    ·show Act.put _ (some 56) _=_;exact zzS
    refine pure_ (i:=2) (N:=some 57) (v:=?_) (a':=?_) (zM 7 31) rfl rfl (by kernel_rfl) (fun _ _ _ h=>h) (Or.inl ⟨by rfl,?_⟩) ?_ ?_;rotate_left
    ·intro w';exact zzT
    rotate_left
    ·exact zzS
    refine pure_ (i:=5) (N:=some 60) (v:=?_) (a':=?_) (zM 7 63) rfl rfl (by kernel_rfl) (fun _ _ _ h=>h) (Or.inl ⟨by rfl,?_⟩) ?_ ?_;rotate_left
    ·intro w';exact zzT
    rotate_left
    ·exact zzS
    refine pure_ (i:=6) (N:=some 2) (v:=?_) (a':=?_) (zM 7 127) rfl rfl (by kernel_rfl) (fun _ _ _ h=>h) (Or.inl ⟨by rfl,?_⟩) ?_ ?_;rotate_left
    ·intro w';exact zzT
    rotate_left
    ·exact zzS
    refine aEq (by kernel_rfl) ?_;(try go_wp2);go_ret;exact⟨zz9,zz1⟩
   rw[if_pos c8]at H;have iH:=decide_eq_true c8;clear c8;by_cases c9:0≤bB;rotate_left
   ·rw[if_neg c9]at H;exact absurd H (by simp)
   rw[if_pos c9]at H;have iZ:=decide_eq_true c9;clear c9;by_cases c10:bB<(aC.length:Int);rotate_left
   ·rw[if_neg c10]at H;exact absurd H (by simp)
   rw[if_pos c10]at H;have g3:=decide_eq_true c10;clear c10;by_cases c11:bB>0;rotate_left
   ·rw[if_neg c11]at H;have nL:decide (0<bB)=false:=decide_eq_false c11;clear c11;have H':=zK_ H;clear H;have p103:0≤(bB:Int):=of_decide_eq_true zz4;have q103:bB<(aC.length:Int):=of_decide_eq_true zz4;obtain⟨bR,e103,aX,bG⟩:=aCo b5.out bB p103 q103;cases e103;replace aX:=(HB.out.cell (World.block_lt_of_cell? w _ aX)).trans aX;replace bG:=(HB.out.cell (World.block_lt_of_cell? w _ bG)).trans bG;replace p103:=eq_true p103;replace q103:=eq_true q103;(try go_wp2_with (first|((with_reducible refine aAn (N:=4) rfl ?_);refine aAl ?hg (N:=4) ?hd (cs:=#[.int .i64 0,.int .i64 0]) (t:=57) ?hr ?_;(case hd=>rfl);(case hg=>rfl);(case hr=>exact aCp);intro a7 hg w38 hbox hb;have n_:=zA7 (aA3 (g:=aE) (o:=.cells #[.int .i64 aD,.slice (some bR) aC.length aG] 25 (0,0)) zz0 hb) (aA2 zz1 hb) hbox (aEg:w.heap.size≤a7) (aEg:w.heap.size≤a7) (aLx:aE≠a7) (aLw:a7≠aE);clear aA HB;obtain⟨aA,HB,bE,GW104,GE104,bW,b3⟩:=n_;clear hb hbox hg;have yW:=b3.out;have yG:=bW.out;have GB:=aC7 bE;have GA:=aC6 bE;have E8:=aA0 bE.out 0;have E7:=aA0 bE.out 1)));have n0_:Aside0 (((w38.setCell ⟨a7,0,none⟩ (.int .i64 ((aA4 aC bB).f0))).setCell ⟨a7,1,none⟩ (.int .i64 ((aA4 aC bB).f1))).heap[aE]? = some (.cells #[.int .i64 aD,.slice (some bR) aC.length aG] 25 (0,0))):=⟨aRe⟩;have n1_:Aside0 (((w38.setCell ⟨a7,0,none⟩ (.int .i64 ((aA4 aC bB).f0))).setCell ⟨a7,1,none⟩ (.int .i64 ((aA4 aC bB).f1))).heap[a7]? = some (.cells #[.int .i64 ((aA4 aC bB).f0),.int .i64 ((aA4 aC bB).f1)] 57 (0,0))):=⟨aWg⟩;have n2_:Aside0 (Below w.heap.size w ((w38.setCell ⟨a7,0,none⟩ (.int .i64 ((aA4 aC bB).f0))).setCell ⟨a7,1,none⟩ (.int .i64 ((aA4 aC bB).f1)))):=⟨aJ2⟩;(try clear aA);(try clear bE);(try clear HB);generalize ((w38.setCell ⟨a7,0,none⟩ (.int .i64 ((aA4 aC bB).f0))).setCell ⟨a7,1,none⟩ (.int .i64 ((aA4 aC bB).f1)))=w41 at n0_ n1_ n2_ ⊢;have aA:=n0_;have bE:=n1_;have HB:=n2_;clear n0_ n1_ n2_;have n_:=zA3 (aA9 aA.out) (aA9 bE.out) (aAs HB.out);clear aA bE HB;obtain⟨aA,bE,HB⟩:=n_;refine aE5 (n:=38) (S:=fun w'=>True) (ds:=[]) (zM 38 0) (by kernel_rfl) rfl rfl trivial (fun hHeld=>?_);refine aDc aAi.tab6 aAi.bits6 (fun HT_ HW_=>?_);generalize w41.drew=w42 at aA bE HB hHeld ⊢;refine zQ 0 16 (zM 38 1) ?_
    refine zQ 1 17 (zM 38 3) ?_
    refine zQ 2 18 (zM 38 7) ?_
    refine zU 3 19 (zM 38 15) rfl rfl HT_.out ?_ ?_ ?_;rotate_left
    ·exact zzS
    refine zU 4 20 (zM 38 31) rfl rfl HT_.out ?_ ?_ ?_;rotate_left
    ·exact zzS
    refine zU 5 21 (zM 38 63) rfl rfl HT_.out ?_ ?_ ?_;rotate_left
    ·exact zzS
    refine zU 6 22 (zM 38 127) rfl rfl HT_.out ?_ ?_ ?_;rotate_left
    ·exact zzS
    refine zU 7 23 (zM 38 255) rfl rfl HT_.out ?_ ?_ ?_;rotate_left
    ·exact zzS
    refine zU 8 24 (zM 38 511) rfl rfl HT_.out ?_ ?_ ?_;rotate_left
    ·exact zzS
    refine zU 9 25 (zM 38 1023) rfl rfl HT_.out ?_ ?_ ?_;rotate_left
    ·exact zzS
    refine zU 10 26 (zM 38 2047) rfl rfl HT_.out ?_ ?_ ?_;rotate_left
    ·exact zzS
    refine zU 11 27 (zM 38 4095) rfl rfl HT_.out ?_ ?_ ?_;rotate_left
    ·exact zzS
    refine zU 12 28 (zM 38 8191) rfl rfl HT_.out ?_ ?_ ?_;rotate_left
    ·exact zzS
    refine zU 13 29 (zM 38 16383) rfl rfl HT_.out ?_ ?_ ?_;rotate_left
    ·exact zzS
    refine zU 14 30 (zM 38 32767) rfl rfl HT_.out ?_ ?_ ?_;rotate_left
    ·exact zzS
    refine zU 15 31 (zM 38 65535) rfl rfl HT_.out ?_ ?_ ?_;rotate_left
    ·exact zzS
    refine zU 16 32 (zM 38 131071) rfl rfl HT_.out ?_ ?_ ?_;rotate_left
    ·exact zzS
    refine zU 17 33 (zM 38 262143) rfl rfl HT_.out ?_ ?_ ?_;rotate_left
    ·exact zzS
    refine zU 18 34 (zM 38 524287) rfl rfl HT_.out ?_ ?_ ?_;rotate_left
    ·exact zzS
    refine zU 19 35 (zM 38 1048575) rfl rfl HT_.out ?_ ?_ ?_;rotate_left
    ·exact zzS
    refine zU 20 36 (zM 38 2097151) rfl rfl HT_.out ?_ ?_ ?_;rotate_left
    ·exact zzS
    refine zU 21 37 (zM 38 4194303) rfl rfl HT_.out ?_ ?_ ?_;rotate_left
    ·exact zzS
    refine zU 22 38 (zM 38 8388607) rfl rfl HT_.out ?_ ?_ ?_;rotate_left
    ·exact zzS
    refine zU 23 39 (zM 38 16777215) rfl rfl HT_.out ?_ ?_ ?_;rotate_left
    ·exact zzS
    refine zU 24 40 (zM 38 33554431) rfl rfl HT_.out ?_ ?_ ?_;rotate_left
    ·exact zzS
    refine zU 25 41 (zM 38 67108863) rfl rfl HT_.out ?_ ?_ ?_;rotate_left
    ·exact zzS
    refine zU 26 42 (zM 38 134217727) rfl rfl HT_.out ?_ ?_ ?_;rotate_left
    ·exact zzS
    refine zU 27 43 (zM 38 268435455) rfl rfl HT_.out ?_ ?_ ?_;rotate_left
    ·exact zzS
    refine zU 28 44 (zM 38 536870911) rfl rfl HT_.out ?_ ?_ ?_;rotate_left
    ·exact zzS
    refine zU 29 45 (zM 38 1073741823) rfl rfl HT_.out ?_ ?_ ?_;rotate_left
    ·exact zzS
    refine zU 30 46 (zM 38 2147483647) rfl rfl HT_.out ?_ ?_ ?_;rotate_left
    ·exact zzS
    refine zU 31 47 (zM 38 4294967295) rfl rfl HT_.out ?_ ?_ ?_;rotate_left
    ·exact zzS
    refine zU 32 48 (zM 38 8589934591) rfl rfl HT_.out ?_ ?_ ?_;rotate_left
    ·exact zzS
    refine zU 33 49 (zM 38 17179869183) rfl rfl HT_.out ?_ ?_ ?_;rotate_left
    ·exact zzS
    refine zU 34 50 (zM 38 34359738367) rfl rfl HT_.out ?_ ?_ ?_;rotate_left
    ·exact zzS
    refine zU 35 51 (zM 38 68719476735) rfl rfl HT_.out ?_ ?_ ?_;rotate_left
    ·exact zzS
    refine zU 36 52 (zM 38 137438953471) rfl rfl HT_.out ?_ ?_ ?_;rotate_left
    ·exact zzS
    refine zQ 37 53 (zM 38 274877906943) ?_
    refine aEq (aDy HT_.out (by kernel_rfl)) ?_;(try go_wp2);go_roundg k1;(case measure=>have:=HK1.out;omega);case rel=>exact⟨(wrap64 (bB+1)),zz6,H',⟨aG6⟩,⟨zz0⟩,⟨aJ2⟩⟩
   rw[if_pos c11]at H;have nL:decide (0<bB)=true:=decide_eq_true c11;clear c11;obtain⟨b9,mS⟩:∃ j_:Int,(wrap64 (bB-1))=j_:=⟨_,rfl⟩;(replace H:(if 0≤(b9) then(if(b9)<(aC.length:Int) then(if((aA4 aC bB).f0)<((aA4 aC (b9)).f0) then(some false) else(if((aA4 aC bB).f0)=((aA4 aC (b9)).f0) then(if((aA4 aC bB).f1)<((aA4 aC (b9)).f1) then(some false) else(aAi.l0 k1 aC (aC.length:Int) (wrap64 (bB+1)) aD aC)) else(aAi.l0 k1 aC (aC.length:Int) (wrap64 (bB+1)) aD aC))) else(none)) else(none))=some r:=by first|(rw[mS]at H;exact H)|(simp only[mS]at H ⊢;exact H));have J3:(IntKind.i64.wrap (bB-1))=b9:=(aE7 _).trans mS;by_cases c13:0≤(b9);rotate_left
   ·rw[if_neg c13]at H;exact absurd H (by simp)
   rw[if_pos c13]at H;have iJ:=decide_eq_true c13;clear c13;by_cases c14:(b9)<(aC.length:Int);rotate_left
   ·rw[if_neg c14]at H;exact absurd H (by simp)
   rw[if_pos c14]at H;have lT:=decide_eq_true c14;clear c14;by_cases c15:((aA4 aC bB).f0)<((aA4 aC (b9)).f0)
   ·rw[if_pos c15]at H;have nD:=decide_eq_true c15;clear c15;obtain rfl:=Option.some.inj H;have p103:0≤(bB:Int):=of_decide_eq_true zz4;have q103:bB<(aC.length:Int):=of_decide_eq_true zz4;obtain⟨bR,e103,aX,bG⟩:=aCo b5.out bB p103 q103;cases e103;replace aX:=(HB.out.cell (World.block_lt_of_cell? w _ aX)).trans aX;replace bG:=(HB.out.cell (World.block_lt_of_cell? w _ bG)).trans bG;replace p103:=eq_true p103;replace q103:=eq_true q103;(try go_wp2_with (first|((with_reducible refine aAn (N:=4) rfl ?_);refine aAl ?hg (N:=4) ?hd (cs:=#[.int .i64 0,.int .i64 0]) (t:=57) ?hr ?_;(case hd=>rfl);(case hg=>rfl);(case hr=>exact aCp);intro a7 hg w16 hbox hb;have n_:=zA7 (aA3 (g:=aE) (o:=.cells #[.int .i64 aD,.slice (some bR) aC.length aG] 25 (0,0)) zz0 hb) (aA2 zz1 hb) hbox (aEg:w.heap.size≤a7) (aEg:w.heap.size≤a7) (aLx:aE≠a7) (aLw:a7≠aE);clear aA HB;obtain⟨aA,HB,bE,GW104,GE104,bW,b3⟩:=n_;clear hb hbox hg;have NC:=b3.out;have L8:=bW.out;have pS:=aC7 bE;have pR:=aC6 bE;have pM:=aA0 bE.out 0;have pL:=aA0 bE.out 1)));have n0_:Aside0 (((w16.setCell ⟨a7,0,none⟩ (.int .i64 ((aA4 aC bB).f0))).setCell ⟨a7,1,none⟩ (.int .i64 ((aA4 aC bB).f1))).heap[aE]? = some (.cells #[.int .i64 aD,.slice (some bR) aC.length aG] 25 (0,0))):=⟨aRe⟩;have n1_:Aside0 (((w16.setCell ⟨a7,0,none⟩ (.int .i64 ((aA4 aC bB).f0))).setCell ⟨a7,1,none⟩ (.int .i64 ((aA4 aC bB).f1))).heap[a7]? = some (.cells #[.int .i64 ((aA4 aC bB).f0),.int .i64 ((aA4 aC bB).f1)] 57 (0,0))):=⟨aWg⟩;have n2_:Aside0 (Below w.heap.size w ((w16.setCell ⟨a7,0,none⟩ (.int .i64 ((aA4 aC bB).f0))).setCell ⟨a7,1,none⟩ (.int .i64 ((aA4 aC bB).f1)))):=⟨aJ2⟩;(try clear aA);(try clear bE);(try clear HB);generalize ((w16.setCell ⟨a7,0,none⟩ (.int .i64 ((aA4 aC bB).f0))).setCell ⟨a7,1,none⟩ (.int .i64 ((aA4 aC bB).f1)))=w19 at n0_ n1_ n2_ ⊢;have aA:=n0_;have bE:=n1_;have HB:=n2_;clear n0_ n1_ n2_;have n_:=zA3 (aA9 aA.out) (aA9 bE.out) (aAs HB.out);clear aA bE HB;obtain⟨aA,bE,HB⟩:=n_;have p105:0≤((b9):Int):=of_decide_eq_true zz4;have q105:(b9)<(aC.length:Int):=of_decide_eq_true zz4;obtain⟨dP,e105,bV,dC⟩:=aCo b5.out (b9) p105 q105;have hw105_1:=dC;have hw105_0:=bV;obtain rfl:bR=dP:=(by injection e105);replace bV:=(HB.out.cell (World.block_lt_of_cell? w _ bV)).trans bV;replace dC:=(HB.out.cell (World.block_lt_of_cell? w _ dC)).trans dC;replace p105:=eq_true p105;replace q105:=eq_true q105;refine aE5 (n:=38) (S:=fun w'=>w'.cell? ⟨a7,0,none⟩=some (.int .i64 ((aA4 aC bB).f0))∧w'.cell? ⟨a7,1,none⟩=some (.int .i64 ((aA4 aC bB).f1))∧w'.cell? ⟨aE,0,none⟩=some (.int .i64 aD)∧w'.cell? ⟨aE,1,none⟩=some (.slice (some bR) aC.length aG)∧w'.cell? (bR.add (((b9)).toNat*2))=some (.int .i64 ((aA4 aC (b9)).f0))∧w'.cell? ⟨(bR.add (((b9)).toNat*2)).block,(bR.add (((b9)).toNat*2)).off+1,none⟩=some (.int .i64 ((aA4 aC (b9)).f1))) (ds:=[]) (zM 38 0) (by kernel_rfl) rfl rfl ⟨(blk_cell bE.out 0).trans rfl,(blk_cell bE.out 1).trans rfl,(blk_cell aA.out 0).trans rfl,(blk_cell aA.out 1).trans rfl,((HB.out.cell (World.block_lt_of_cell? w _ hw105_0)).trans hw105_0),((HB.out.cell (World.block_lt_of_cell? w _ hw105_1)).trans hw105_1)⟩ (fun hHeld=>?_);refine aDc aAi.tab6 aAi.bits6 (fun HT_ HW_=>?_);generalize w19.drew=w20 at aA bE HB bV dC hHeld ⊢;refine zQ 0 16 (zM 38 1) ?_
    refine zQ 1 17 (zM 38 3) ?_
    refine zQ 2 18 (zM 38 7) ?_
    refine zQ 3 19 (zM 38 15) ?_
    refine zQ 5 21 (zM 38 47) ?_
    refine zQ 7 23 (zM 38 175) ?_
    refine zQ 8 24 (zM 38 431) ?_
    refine take_ (i:=4) (N:=some 20) (v:=?_) (a':=?_) (zM 38 447) rfl rfl (aC0 HT_.out HW_.out (by kernel_rfl)) (fun _ _ _ h=>h) (Or.inl ⟨by rfl,?_⟩) hHeld ?_ ?_;rotate_left
    ·rintro w' ⟨s0,s1,s2,s3,s4,s5⟩;exact zzT
    rotate_left
    ·exact zzS
    refine take_ (i:=6) (N:=some 22) (v:=?_) (a':=?_) (zM 38 511) rfl rfl (aC0 HT_.out HW_.out (by kernel_rfl)) (fun _ _ _ h=>h) (Or.inl ⟨by rfl,?_⟩) hHeld ?_ ?_;rotate_left
    ·rintro w' ⟨s0,s1,s2,s3,s4,s5⟩;exact zzT
    rotate_left
    ·exact zzS
    refine zQ 9 25 (zM 38 1023) ?_
    refine zQ 10 26 (zM 38 2047) ?_
    refine take_ (i:=11) (N:=some 27) (v:=?_) (a':=?_) (zM 38 4095) rfl rfl (aC0 HT_.out HW_.out (by kernel_rfl)) (fun _ _ _ h=>h) (Or.inl ⟨by rfl,?_⟩) hHeld ?_ ?_;rotate_left
    ·rintro w' ⟨s0,s1,s2,s3,s4,s5⟩;exact zzT
    rotate_left
    ·exact zzS
    refine zQ 12 28 (zM 38 8191) ?_
    refine zQ 13 29 (zM 38 16383) ?_
    refine zU 14 30 (zM 38 32767) rfl rfl HT_.out ?_ ?_ ?_;rotate_left
    ·exact zzS
    refine zU 15 31 (zM 38 65535) rfl rfl HT_.out ?_ ?_ ?_;rotate_left
    ·exact zzS
    refine zU 16 32 (zM 38 131071) rfl rfl HT_.out ?_ ?_ ?_;rotate_left
    ·exact zzS
    refine zU 17 33 (zM 38 262143) rfl rfl HT_.out ?_ ?_ ?_;rotate_left
    ·exact zzS
    refine zU 18 34 (zM 38 524287) rfl rfl HT_.out ?_ ?_ ?_;rotate_left
    ·exact zzS
    refine zU 19 35 (zM 38 1048575) rfl rfl HT_.out ?_ ?_ ?_;rotate_left
    ·exact zzS
    refine zU 20 36 (zM 38 2097151) rfl rfl HT_.out ?_ ?_ ?_;rotate_left
    ·exact zzS
    refine zU 21 37 (zM 38 4194303) rfl rfl HT_.out ?_ ?_ ?_;rotate_left
    ·exact zzS
    refine zU 22 38 (zM 38 8388607) rfl rfl HT_.out ?_ ?_ ?_;rotate_left
    ·exact zzS
    refine zU 23 39 (zM 38 16777215) rfl rfl HT_.out ?_ ?_ ?_;rotate_left
    ·exact zzS
    refine zU 24 40 (zM 38 33554431) rfl rfl HT_.out ?_ ?_ ?_;rotate_left
    ·exact zzS
    refine zU 25 41 (zM 38 67108863) rfl rfl HT_.out ?_ ?_ ?_;rotate_left
    ·exact zzS
    refine zU 26 42 (zM 38 134217727) rfl rfl HT_.out ?_ ?_ ?_;rotate_left
    ·exact zzS
    refine zU 27 43 (zM 38 268435455) rfl rfl HT_.out ?_ ?_ ?_;rotate_left
    ·exact zzS
    refine zU 28 44 (zM 38 536870911) rfl rfl HT_.out ?_ ?_ ?_;rotate_left
    ·exact zzS
    refine zU 29 45 (zM 38 1073741823) rfl rfl HT_.out ?_ ?_ ?_;rotate_left
    ·exact zzS
    refine zU 30 46 (zM 38 2147483647) rfl rfl HT_.out ?_ ?_ ?_;rotate_left
    ·exact zzS
    refine zU 31 47 (zM 38 4294967295) rfl rfl HT_.out ?_ ?_ ?_;rotate_left
    ·exact zzS
    refine zU 32 48 (zM 38 8589934591) rfl rfl HT_.out ?_ ?_ ?_;rotate_left
    ·exact zzS
    refine zU 33 49 (zM 38 17179869183) rfl rfl HT_.out ?_ ?_ ?_;rotate_left
    ·exact zzS
    refine zU 34 50 (zM 38 34359738367) rfl rfl HT_.out ?_ ?_ ?_;rotate_left
    ·exact zzS
    refine zU 35 51 (zM 38 68719476735) rfl rfl HT_.out ?_ ?_ ?_;rotate_left
    ·exact zzS
    refine zQ 36 52 (zM 38 137438953471) ?_
    refine zQ 37 53 (zM 38 274877906943) ?_
    refine aEq (aDy HT_.out (by kernel_rfl)) ?_;(try go_wp2);go_ret;exact⟨by first|rfl|(simp[aCm,aCl]<;>rfl)|(simp only[← mS];first|rfl|(simp[aCm,aCl]<;>rfl))|(simp[*,aCm,aCl]<;>rfl),aJ2⟩
   rw[if_neg c15]at H;have nD:=decide_eq_false c15;clear c15;by_cases c21:((aA4 aC bB).f0)=((aA4 aC (b9)).f0);rotate_left
   ·rw[if_neg c21]at H;have nK:(((aA4 aC bB).f0)==((aA4 aC (b9)).f0))=false:=beq_eq_false_iff_ne.mpr c21;have wQ:(((aA4 aC bB).f0) != ((aA4 aC (b9)).f0))=true:=bne_iff_ne.mpr c21;have H':=zK_ H;clear H;have p103:0≤(bB:Int):=of_decide_eq_true zz4;have q103:bB<(aC.length:Int):=of_decide_eq_true zz4;obtain⟨bR,e103,aX,bG⟩:=aCo b5.out bB p103 q103;cases e103;replace aX:=(HB.out.cell (World.block_lt_of_cell? w _ aX)).trans aX;replace bG:=(HB.out.cell (World.block_lt_of_cell? w _ bG)).trans bG;replace p103:=eq_true p103;replace q103:=eq_true q103;(try go_wp2_with (first|((with_reducible refine aAn (N:=4) rfl ?_);refine aAl ?hg (N:=4) ?hd (cs:=#[.int .i64 0,.int .i64 0]) (t:=57) ?hr ?_;(case hd=>rfl);(case hg=>rfl);(case hr=>exact aCp);intro a7 hg w33 hbox hb;have n_:=zA7 (aA3 (g:=aE) (o:=.cells #[.int .i64 aD,.slice (some bR) aC.length aG] 25 (0,0)) zz0 hb) (aA2 zz1 hb) hbox (aEg:w.heap.size≤a7) (aEg:w.heap.size≤a7) (aLx:aE≠a7) (aLw:a7≠aE);clear aA HB;obtain⟨aA,HB,bE,GW104,GE104,bW,b3⟩:=n_;clear hb hbox hg;have wK:=b3.out;have wI:=bW.out;have kE:=aC7 bE;have kD:=aC6 bE;have j6:=aA0 bE.out 0;have j5:=aA0 bE.out 1)));have n0_:Aside0 (((w33.setCell ⟨a7,0,none⟩ (.int .i64 ((aA4 aC bB).f0))).setCell ⟨a7,1,none⟩ (.int .i64 ((aA4 aC bB).f1))).heap[aE]? = some (.cells #[.int .i64 aD,.slice (some bR) aC.length aG] 25 (0,0))):=⟨aRe⟩;have n1_:Aside0 (((w33.setCell ⟨a7,0,none⟩ (.int .i64 ((aA4 aC bB).f0))).setCell ⟨a7,1,none⟩ (.int .i64 ((aA4 aC bB).f1))).heap[a7]? = some (.cells #[.int .i64 ((aA4 aC bB).f0),.int .i64 ((aA4 aC bB).f1)] 57 (0,0))):=⟨aWg⟩;have n2_:Aside0 (Below w.heap.size w ((w33.setCell ⟨a7,0,none⟩ (.int .i64 ((aA4 aC bB).f0))).setCell ⟨a7,1,none⟩ (.int .i64 ((aA4 aC bB).f1)))):=⟨aJ2⟩;(try clear aA);(try clear bE);(try clear HB);generalize ((w33.setCell ⟨a7,0,none⟩ (.int .i64 ((aA4 aC bB).f0))).setCell ⟨a7,1,none⟩ (.int .i64 ((aA4 aC bB).f1)))=w36 at n0_ n1_ n2_ ⊢;have aA:=n0_;have bE:=n1_;have HB:=n2_;clear n0_ n1_ n2_;have n_:=zA3 (aA9 aA.out) (aA9 bE.out) (aAs HB.out);clear aA bE HB;obtain⟨aA,bE,HB⟩:=n_;have p105:0≤((b9):Int):=of_decide_eq_true zz4;have q105:(b9)<(aC.length:Int):=of_decide_eq_true zz4;obtain⟨dP,e105,bV,dC⟩:=aCo b5.out (b9) p105 q105;have hw105_1:=dC;have hw105_0:=bV;obtain rfl:bR=dP:=(by injection e105);replace bV:=(HB.out.cell (World.block_lt_of_cell? w _ bV)).trans bV;replace dC:=(HB.out.cell (World.block_lt_of_cell? w _ dC)).trans dC;replace p105:=eq_true p105;replace q105:=eq_true q105;have p106:0≤((b9):Int):=of_decide_eq_true zz4;have q106:(b9)<(aC.length:Int):=of_decide_eq_true zz4;obtain⟨qV,e106,fA,eZ⟩:=aCo b5.out (b9) p106 q106;have hw106_1:=eZ;have hw106_0:=fA;obtain rfl:bR=qV:=(by injection e106);replace fA:=(HB.out.cell (World.block_lt_of_cell? w _ fA)).trans fA;replace eZ:=(HB.out.cell (World.block_lt_of_cell? w _ eZ)).trans eZ;replace p106:=eq_true p106;replace q106:=eq_true q106;refine aE5 (n:=38) (S:=fun w'=>w'.cell? ⟨a7,0,none⟩=some (.int .i64 ((aA4 aC bB).f0))∧w'.cell? ⟨a7,1,none⟩=some (.int .i64 ((aA4 aC bB).f1))∧w'.cell? ⟨aE,0,none⟩=some (.int .i64 aD)∧w'.cell? ⟨aE,1,none⟩=some (.slice (some bR) aC.length aG)∧w'.cell? (bR.add (((b9)).toNat*2))=some (.int .i64 ((aA4 aC (b9)).f0))∧w'.cell? ⟨(bR.add (((b9)).toNat*2)).block,(bR.add (((b9)).toNat*2)).off+1,none⟩=some (.int .i64 ((aA4 aC (b9)).f1))∧w'.cell? (bR.add (((b9)).toNat*2))=some (.int .i64 ((aA4 aC (b9)).f0))∧w'.cell? ⟨(bR.add (((b9)).toNat*2)).block,(bR.add (((b9)).toNat*2)).off+1,none⟩=some (.int .i64 ((aA4 aC (b9)).f1))) (ds:=[]) (zM 38 0) (by kernel_rfl) rfl rfl ⟨(blk_cell bE.out 0).trans rfl,(blk_cell bE.out 1).trans rfl,(blk_cell aA.out 0).trans rfl,(blk_cell aA.out 1).trans rfl,((HB.out.cell (World.block_lt_of_cell? w _ hw105_0)).trans hw105_0),((HB.out.cell (World.block_lt_of_cell? w _ hw105_1)).trans hw105_1),((HB.out.cell (World.block_lt_of_cell? w _ hw106_0)).trans hw106_0),((HB.out.cell (World.block_lt_of_cell? w _ hw106_1)).trans hw106_1)⟩ (fun hHeld=>?_);refine aDc aAi.tab6 aAi.bits6 (fun HT_ HW_=>?_);generalize w36.drew=w37 at aA bE HB bV dC fA eZ hHeld ⊢;refine zQ 0 16 (zM 38 1) ?_
    refine zQ 1 17 (zM 38 3) ?_
    refine zQ 2 18 (zM 38 7) ?_
    refine zQ 3 19 (zM 38 15) ?_
    refine zQ 5 21 (zM 38 47) ?_
    refine zQ 7 23 (zM 38 175) ?_
    refine zQ 8 24 (zM 38 431) ?_
    refine take_ (i:=4) (N:=some 20) (v:=?_) (a':=?_) (zM 38 447) rfl rfl (aC0 HT_.out HW_.out (by kernel_rfl)) (fun _ _ _ h=>h) (Or.inl ⟨by rfl,?_⟩) hHeld ?_ ?_;rotate_left
    ·rintro w' ⟨s0,s1,s2,s3,s4,s5,s6,s7⟩;exact zzT
    rotate_left
    ·exact zzS
    refine take_ (i:=6) (N:=some 22) (v:=?_) (a':=?_) (zM 38 511) rfl rfl (aC0 HT_.out HW_.out (by kernel_rfl)) (fun _ _ _ h=>h) (Or.inl ⟨by rfl,?_⟩) hHeld ?_ ?_;rotate_left
    ·rintro w' ⟨s0,s1,s2,s3,s4,s5,s6,s7⟩;exact zzT
    rotate_left
    ·exact zzS
    refine zQ 9 25 (zM 38 1023) ?_
    refine zQ 10 26 (zM 38 2047) ?_
    refine take_ (i:=11) (N:=some 27) (v:=?_) (a':=?_) (zM 38 4095) rfl rfl (aC0 HT_.out HW_.out (by kernel_rfl)) (fun _ _ _ h=>h) (Or.inl ⟨by rfl,?_⟩) hHeld ?_ ?_;rotate_left
    ·rintro w' ⟨s0,s1,s2,s3,s4,s5,s6,s7⟩;exact zzT
    rotate_left
    ·exact zzS
    refine zQ 12 28 (zM 38 8191) ?_
    refine zQ 13 29 (zM 38 16383) ?_
    refine zQ 14 30 (zM 38 32767) ?_
    refine zQ 16 32 (zM 38 98303) ?_
    refine zQ 18 34 (zM 38 360447) ?_
    refine zQ 19 35 (zM 38 884735) ?_
    refine take_ (i:=15) (N:=some 31) (v:=?_) (a':=?_) (zM 38 917503) rfl rfl (aC0 HT_.out HW_.out (by kernel_rfl)) (fun _ _ _ h=>h) (Or.inl ⟨by rfl,?_⟩) hHeld ?_ ?_;rotate_left
    ·rintro w' ⟨s0,s1,s2,s3,s4,s5,s6,s7⟩;exact zzT
    rotate_left
    ·exact zzS
    refine take_ (i:=17) (N:=some 33) (v:=?_) (a':=?_) (zM 38 1048575) rfl rfl (aC0 HT_.out HW_.out (by kernel_rfl)) (fun _ _ _ h=>h) (Or.inl ⟨by rfl,?_⟩) hHeld ?_ ?_;rotate_left
    ·rintro w' ⟨s0,s1,s2,s3,s4,s5,s6,s7⟩;exact zzT
    rotate_left
    ·exact zzS
    refine zQ 20 36 (zM 38 2097151) ?_
    refine zQ 21 37 (zM 38 4194303) ?_
    refine take_ (i:=22) (N:=some 38) (v:=?_) (a':=?_) (zM 38 8388607) rfl rfl (aC0 HT_.out HW_.out (by kernel_rfl)) (fun _ _ _ h=>h) (Or.inl ⟨by rfl,?_⟩) hHeld ?_ ?_;rotate_left
    ·rintro w' ⟨s0,s1,s2,s3,s4,s5,s6,s7⟩;exact zzT
    rotate_left
    ·exact zzS
    refine zQ 23 39 (zM 38 16777215) ?_
    refine zQ 24 40 (zM 38 33554431) ?_
    refine zU 25 41 (zM 38 67108863) rfl rfl HT_.out ?_ ?_ ?_;rotate_left
    ·exact zzS
    refine zU 26 42 (zM 38 134217727) rfl rfl HT_.out ?_ ?_ ?_;rotate_left
    ·exact zzS
    refine zU 27 43 (zM 38 268435455) rfl rfl HT_.out ?_ ?_ ?_;rotate_left
    ·exact zzS
    refine zU 28 44 (zM 38 536870911) rfl rfl HT_.out ?_ ?_ ?_;rotate_left
    ·exact zzS
    refine zU 29 45 (zM 38 1073741823) rfl rfl HT_.out ?_ ?_ ?_;rotate_left
    ·exact zzS
    refine zU 30 46 (zM 38 2147483647) rfl rfl HT_.out ?_ ?_ ?_;rotate_left
    ·exact zzS
    refine zU 31 47 (zM 38 4294967295) rfl rfl HT_.out ?_ ?_ ?_;rotate_left
    ·exact zzS
    refine zU 32 48 (zM 38 8589934591) rfl rfl HT_.out ?_ ?_ ?_;rotate_left
    ·exact zzS
    refine zU 33 49 (zM 38 17179869183) rfl rfl HT_.out ?_ ?_ ?_;rotate_left
    ·exact zzS
    refine zU 34 50 (zM 38 34359738367) rfl rfl HT_.out ?_ ?_ ?_;rotate_left
    ·exact zzS
    refine zQ 35 51 (zM 38 68719476735) ?_
    refine zQ 36 52 (zM 38 137438953471) ?_
    refine zQ 37 53 (zM 38 274877906943) ?_
    refine aEq (aDy HT_.out (by kernel_rfl)) ?_;(try go_wp2);go_roundg k1;(case measure=>have:=HK1.out;omega);case rel=>exact⟨(wrap64 (bB+1)),zz6,H',⟨aG6⟩,⟨zz0⟩,⟨aJ2⟩⟩
   rw[if_pos c21]at H;have nK:(((aA4 aC bB).f0)==((aA4 aC (b9)).f0))=true:=beq_iff_eq.mpr c21;have wQ:(((aA4 aC bB).f0) != ((aA4 aC (b9)).f0))=false:=bne_eq_false_iff_eq.mpr c21;clear c21;by_cases c22:((aA4 aC bB).f1)<((aA4 aC (b9)).f1)
   ·rw[if_pos c22]at H;have oS:=decide_eq_true c22;clear c22;obtain rfl:=Option.some.inj H;have p103:0≤(bB:Int):=of_decide_eq_true zz4;have q103:bB<(aC.length:Int):=of_decide_eq_true zz4;obtain⟨bR,e103,aX,bG⟩:=aCo b5.out bB p103 q103;cases e103;replace aX:=(HB.out.cell (World.block_lt_of_cell? w _ aX)).trans aX;replace bG:=(HB.out.cell (World.block_lt_of_cell? w _ bG)).trans bG;replace p103:=eq_true p103;replace q103:=eq_true q103;(try go_wp2_with (first|((with_reducible refine aAn (N:=4) rfl ?_);refine aAl ?hg (N:=4) ?hd (cs:=#[.int .i64 0,.int .i64 0]) (t:=57) ?hr ?_;(case hd=>rfl);(case hg=>rfl);(case hr=>exact aCp);intro a7 hg w23 hbox hb;have n_:=zA7 (aA3 (g:=aE) (o:=.cells #[.int .i64 aD,.slice (some bR) aC.length aG] 25 (0,0)) zz0 hb) (aA2 zz1 hb) hbox (aEg:w.heap.size≤a7) (aEg:w.heap.size≤a7) (aLx:aE≠a7) (aLw:a7≠aE);clear aA HB;obtain⟨aA,HB,bE,GW104,GE104,bW,b3⟩:=n_;clear hb hbox hg;have M9:=b3.out;have L5:=bW.out;have jI:=aC7 bE;have jH:=aC6 bE;have jA:=aA0 bE.out 0;have i9:=aA0 bE.out 1)));have n0_:Aside0 (((w23.setCell ⟨a7,0,none⟩ (.int .i64 ((aA4 aC bB).f0))).setCell ⟨a7,1,none⟩ (.int .i64 ((aA4 aC bB).f1))).heap[aE]? = some (.cells #[.int .i64 aD,.slice (some bR) aC.length aG] 25 (0,0))):=⟨aRe⟩;have n1_:Aside0 (((w23.setCell ⟨a7,0,none⟩ (.int .i64 ((aA4 aC bB).f0))).setCell ⟨a7,1,none⟩ (.int .i64 ((aA4 aC bB).f1))).heap[a7]? = some (.cells #[.int .i64 ((aA4 aC bB).f0),.int .i64 ((aA4 aC bB).f1)] 57 (0,0))):=⟨aWg⟩;have n2_:Aside0 (Below w.heap.size w ((w23.setCell ⟨a7,0,none⟩ (.int .i64 ((aA4 aC bB).f0))).setCell ⟨a7,1,none⟩ (.int .i64 ((aA4 aC bB).f1)))):=⟨aJ2⟩;(try clear aA);(try clear bE);(try clear HB);generalize ((w23.setCell ⟨a7,0,none⟩ (.int .i64 ((aA4 aC bB).f0))).setCell ⟨a7,1,none⟩ (.int .i64 ((aA4 aC bB).f1)))=w26 at n0_ n1_ n2_ ⊢;have aA:=n0_;have bE:=n1_;have HB:=n2_;clear n0_ n1_ n2_;have n_:=zA3 (aA9 aA.out) (aA9 bE.out) (aAs HB.out);clear aA bE HB;obtain⟨aA,bE,HB⟩:=n_;have p105:0≤((b9):Int):=of_decide_eq_true zz4;have q105:(b9)<(aC.length:Int):=of_decide_eq_true zz4;obtain⟨dP,e105,bV,dC⟩:=aCo b5.out (b9) p105 q105;have hw105_1:=dC;have hw105_0:=bV;obtain rfl:bR=dP:=(by injection e105);replace bV:=(HB.out.cell (World.block_lt_of_cell? w _ bV)).trans bV;replace dC:=(HB.out.cell (World.block_lt_of_cell? w _ dC)).trans dC;replace p105:=eq_true p105;replace q105:=eq_true q105;have p106:0≤((b9):Int):=of_decide_eq_true zz4;have q106:(b9)<(aC.length:Int):=of_decide_eq_true zz4;obtain⟨qV,e106,fA,eZ⟩:=aCo b5.out (b9) p106 q106;have hw106_1:=eZ;have hw106_0:=fA;obtain rfl:bR=qV:=(by injection e106);replace fA:=(HB.out.cell (World.block_lt_of_cell? w _ fA)).trans fA;replace eZ:=(HB.out.cell (World.block_lt_of_cell? w _ eZ)).trans eZ;replace p106:=eq_true p106;replace q106:=eq_true q106;have p107:0≤((b9):Int):=of_decide_eq_true zz4;have q107:(b9)<(aC.length:Int):=of_decide_eq_true zz4;obtain⟨nF,e107,dL,iB⟩:=aCo b5.out (b9) p107 q107;have hw107_1:=iB;have hw107_0:=dL;obtain rfl:bR=nF:=(by injection e107);replace dL:=(HB.out.cell (World.block_lt_of_cell? w _ dL)).trans dL;replace iB:=(HB.out.cell (World.block_lt_of_cell? w _ iB)).trans iB;replace p107:=eq_true p107;replace q107:=eq_true q107;refine aE5 (n:=38) (S:=fun w'=>w'.cell? ⟨a7,0,none⟩=some (.int .i64 ((aA4 aC bB).f0))∧w'.cell? ⟨a7,1,none⟩=some (.int .i64 ((aA4 aC bB).f1))∧w'.cell? ⟨aE,0,none⟩=some (.int .i64 aD)∧w'.cell? ⟨aE,1,none⟩=some (.slice (some bR) aC.length aG)∧w'.cell? (bR.add (((b9)).toNat*2))=some (.int .i64 ((aA4 aC (b9)).f0))∧w'.cell? ⟨(bR.add (((b9)).toNat*2)).block,(bR.add (((b9)).toNat*2)).off+1,none⟩=some (.int .i64 ((aA4 aC (b9)).f1))∧w'.cell? (bR.add (((b9)).toNat*2))=some (.int .i64 ((aA4 aC (b9)).f0))∧w'.cell? ⟨(bR.add (((b9)).toNat*2)).block,(bR.add (((b9)).toNat*2)).off+1,none⟩=some (.int .i64 ((aA4 aC (b9)).f1))∧w'.cell? (bR.add (((b9)).toNat*2))=some (.int .i64 ((aA4 aC (b9)).f0))∧w'.cell? ⟨(bR.add (((b9)).toNat*2)).block,(bR.add (((b9)).toNat*2)).off+1,none⟩=some (.int .i64 ((aA4 aC (b9)).f1))) (ds:=[]) (zM 38 0) (by kernel_rfl) rfl rfl ⟨(blk_cell bE.out 0).trans rfl,(blk_cell bE.out 1).trans rfl,(blk_cell aA.out 0).trans rfl,(blk_cell aA.out 1).trans rfl,((HB.out.cell (World.block_lt_of_cell? w _ hw105_0)).trans hw105_0),((HB.out.cell (World.block_lt_of_cell? w _ hw105_1)).trans hw105_1),((HB.out.cell (World.block_lt_of_cell? w _ hw106_0)).trans hw106_0),((HB.out.cell (World.block_lt_of_cell? w _ hw106_1)).trans hw106_1),((HB.out.cell (World.block_lt_of_cell? w _ hw107_0)).trans hw107_0),((HB.out.cell (World.block_lt_of_cell? w _ hw107_1)).trans hw107_1)⟩ (fun hHeld=>?_);refine aDc aAi.tab6 aAi.bits6 (fun HT_ HW_=>?_);generalize w26.drew=w27 at aA bE HB bV dC fA eZ dL iB hHeld ⊢;refine zQ 0 16 (zM 38 1) ?_
    refine zQ 1 17 (zM 38 3) ?_
    refine zQ 2 18 (zM 38 7) ?_
    refine zQ 3 19 (zM 38 15) ?_
    refine zQ 5 21 (zM 38 47) ?_
    refine zQ 7 23 (zM 38 175) ?_
    refine zQ 8 24 (zM 38 431) ?_
    refine take_ (i:=4) (N:=some 20) (v:=?_) (a':=?_) (zM 38 447) rfl rfl (aC0 HT_.out HW_.out (by kernel_rfl)) (fun _ _ _ h=>h) (Or.inl ⟨by rfl,?_⟩) hHeld ?_ ?_;rotate_left
    ·rintro w' ⟨s0,s1,s2,s3,s4,s5,s6,s7,s8,s9⟩;exact zzT
    rotate_left
    ·exact zzS
    refine take_ (i:=6) (N:=some 22) (v:=?_) (a':=?_) (zM 38 511) rfl rfl (aC0 HT_.out HW_.out (by kernel_rfl)) (fun _ _ _ h=>h) (Or.inl ⟨by rfl,?_⟩) hHeld ?_ ?_;rotate_left
    ·rintro w' ⟨s0,s1,s2,s3,s4,s5,s6,s7,s8,s9⟩;exact zzT
    rotate_left
    ·exact zzS
    refine zQ 9 25 (zM 38 1023) ?_
    refine zQ 10 26 (zM 38 2047) ?_
    refine take_ (i:=11) (N:=some 27) (v:=?_) (a':=?_) (zM 38 4095) rfl rfl (aC0 HT_.out HW_.out (by kernel_rfl)) (fun _ _ _ h=>h) (Or.inl ⟨by rfl,?_⟩) hHeld ?_ ?_;rotate_left
    ·rintro w' ⟨s0,s1,s2,s3,s4,s5,s6,s7,s8,s9⟩;exact zzT
    rotate_left
    ·exact zzS
    refine zQ 12 28 (zM 38 8191) ?_
    refine zQ 13 29 (zM 38 16383) ?_
    refine zQ 14 30 (zM 38 32767) ?_
    refine zQ 16 32 (zM 38 98303) ?_
    refine zQ 18 34 (zM 38 360447) ?_
    refine zQ 19 35 (zM 38 884735) ?_
    refine take_ (i:=15) (N:=some 31) (v:=?_) (a':=?_) (zM 38 917503) rfl rfl (aC0 HT_.out HW_.out (by kernel_rfl)) (fun _ _ _ h=>h) (Or.inl ⟨by rfl,?_⟩) hHeld ?_ ?_;rotate_left
    ·rintro w' ⟨s0,s1,s2,s3,s4,s5,s6,s7,s8,s9⟩;exact zzT
    rotate_left
    ·exact zzS
    refine take_ (i:=17) (N:=some 33) (v:=?_) (a':=?_) (zM 38 1048575) rfl rfl (aC0 HT_.out HW_.out (by kernel_rfl)) (fun _ _ _ h=>h) (Or.inl ⟨by rfl,?_⟩) hHeld ?_ ?_;rotate_left
    ·rintro w' ⟨s0,s1,s2,s3,s4,s5,s6,s7,s8,s9⟩;exact zzT
    rotate_left
    ·exact zzS
    refine zQ 20 36 (zM 38 2097151) ?_
    refine zQ 21 37 (zM 38 4194303) ?_
    refine take_ (i:=22) (N:=some 38) (v:=?_) (a':=?_) (zM 38 8388607) rfl rfl (aC0 HT_.out HW_.out (by kernel_rfl)) (fun _ _ _ h=>h) (Or.inl ⟨by rfl,?_⟩) hHeld ?_ ?_;rotate_left
    ·rintro w' ⟨s0,s1,s2,s3,s4,s5,s6,s7,s8,s9⟩;exact zzT
    rotate_left
    ·exact zzS
    refine zQ 23 39 (zM 38 16777215) ?_
    refine zQ 24 40 (zM 38 33554431) ?_
    refine zQ 25 41 (zM 38 67108863) ?_
    refine zQ 27 43 (zM 38 201326591) ?_
    refine zQ 29 45 (zM 38 738197503) ?_
    refine zQ 30 46 (zM 38 1811939327) ?_
    refine take_ (i:=26) (N:=some 42) (v:=?_) (a':=?_) (zM 38 1879048191) rfl rfl (aC0 HT_.out HW_.out (by kernel_rfl)) (fun _ _ _ h=>h) (Or.inl ⟨by rfl,?_⟩) hHeld ?_ ?_;rotate_left
    ·rintro w' ⟨s0,s1,s2,s3,s4,s5,s6,s7,s8,s9⟩;exact zzT
    rotate_left
    ·exact zzS
    refine take_ (i:=28) (N:=some 44) (v:=?_) (a':=?_) (zM 38 2147483647) rfl rfl (aC0 HT_.out HW_.out (by kernel_rfl)) (fun _ _ _ h=>h) (Or.inl ⟨by rfl,?_⟩) hHeld ?_ ?_;rotate_left
    ·rintro w' ⟨s0,s1,s2,s3,s4,s5,s6,s7,s8,s9⟩;exact zzT
    rotate_left
    ·exact zzS
    refine zQ 31 47 (zM 38 4294967295) ?_
    refine zQ 32 48 (zM 38 8589934591) ?_
    refine take_ (i:=33) (N:=some 49) (v:=?_) (a':=?_) (zM 38 17179869183) rfl rfl (aC0 HT_.out HW_.out (by kernel_rfl)) (fun _ _ _ h=>h) (Or.inl ⟨by rfl,?_⟩) hHeld ?_ ?_;rotate_left
    ·rintro w' ⟨s0,s1,s2,s3,s4,s5,s6,s7,s8,s9⟩;exact zzT
    rotate_left
    ·exact zzS
    refine zQ 34 50 (zM 38 34359738367) ?_
    refine zQ 35 51 (zM 38 68719476735) ?_
    refine zQ 36 52 (zM 38 137438953471) ?_
    refine zQ 37 53 (zM 38 274877906943) ?_
    refine aEq (aDy HT_.out (by kernel_rfl)) ?_;(try go_wp2);go_ret;exact⟨by first|rfl|(simp[aCm,aCl]<;>rfl)|(simp only[← mS];first|rfl|(simp[aCm,aCl]<;>rfl))|(simp[*,aCm,aCl]<;>rfl),aJ2⟩
   rw[if_neg c22]at H;have oS:=decide_eq_false c22;clear c22;have H':=zK_ H;clear H;have p103:0≤(bB:Int):=of_decide_eq_true zz4;have q103:bB<(aC.length:Int):=of_decide_eq_true zz4;obtain⟨bR,e103,aX,bG⟩:=aCo b5.out bB p103 q103;cases e103;replace aX:=(HB.out.cell (World.block_lt_of_cell? w _ aX)).trans aX;replace bG:=(HB.out.cell (World.block_lt_of_cell? w _ bG)).trans bG;replace p103:=eq_true p103;replace q103:=eq_true q103;(try go_wp2_with (first|((with_reducible refine aAn (N:=4) rfl ?_);refine aAl ?hg (N:=4) ?hd (cs:=#[.int .i64 0,.int .i64 0]) (t:=57) ?hr ?_;(case hd=>rfl);(case hg=>rfl);(case hr=>exact aCp);intro a7 hg w28 hbox hb;have n_:=zA7 (aA3 (g:=aE) (o:=.cells #[.int .i64 aD,.slice (some bR) aC.length aG] 25 (0,0)) zz0 hb) (aA2 zz1 hb) hbox (aEg:w.heap.size≤a7) (aEg:w.heap.size≤a7) (aLx:aE≠a7) (aLw:a7≠aE);clear aA HB;obtain⟨aA,HB,bE,GW104,GE104,bW,b3⟩:=n_;clear hb hbox hg;have zA:=b3.out;have yK:=bW.out;have m9:=aC7 bE;have m8:=aC6 bE;have m5:=aA0 bE.out 0;have m4:=aA0 bE.out 1)));have n0_:Aside0 (((w28.setCell ⟨a7,0,none⟩ (.int .i64 ((aA4 aC bB).f0))).setCell ⟨a7,1,none⟩ (.int .i64 ((aA4 aC bB).f1))).heap[aE]? = some (.cells #[.int .i64 aD,.slice (some bR) aC.length aG] 25 (0,0))):=⟨aRe⟩;have n1_:Aside0 (((w28.setCell ⟨a7,0,none⟩ (.int .i64 ((aA4 aC bB).f0))).setCell ⟨a7,1,none⟩ (.int .i64 ((aA4 aC bB).f1))).heap[a7]? = some (.cells #[.int .i64 ((aA4 aC bB).f0),.int .i64 ((aA4 aC bB).f1)] 57 (0,0))):=⟨aWg⟩;have n2_:Aside0 (Below w.heap.size w ((w28.setCell ⟨a7,0,none⟩ (.int .i64 ((aA4 aC bB).f0))).setCell ⟨a7,1,none⟩ (.int .i64 ((aA4 aC bB).f1)))):=⟨aJ2⟩;(try clear aA);(try clear bE);(try clear HB);generalize ((w28.setCell ⟨a7,0,none⟩ (.int .i64 ((aA4 aC bB).f0))).setCell ⟨a7,1,none⟩ (.int .i64 ((aA4 aC bB).f1)))=w31 at n0_ n1_ n2_ ⊢;have aA:=n0_;have bE:=n1_;have HB:=n2_;clear n0_ n1_ n2_;have n_:=zA3 (aA9 aA.out) (aA9 bE.out) (aAs HB.out);clear aA bE HB;obtain⟨aA,bE,HB⟩:=n_;have p105:0≤((b9):Int):=of_decide_eq_true zz4;have q105:(b9)<(aC.length:Int):=of_decide_eq_true zz4;obtain⟨dP,e105,bV,dC⟩:=aCo b5.out (b9) p105 q105;have hw105_1:=dC;have hw105_0:=bV;obtain rfl:bR=dP:=(by injection e105);replace bV:=(HB.out.cell (World.block_lt_of_cell? w _ bV)).trans bV;replace dC:=(HB.out.cell (World.block_lt_of_cell? w _ dC)).trans dC;replace p105:=eq_true p105;replace q105:=eq_true q105;have p106:0≤((b9):Int):=of_decide_eq_true zz4;have q106:(b9)<(aC.length:Int):=of_decide_eq_true zz4;obtain⟨qV,e106,fA,eZ⟩:=aCo b5.out (b9) p106 q106;have hw106_1:=eZ;have hw106_0:=fA;obtain rfl:bR=qV:=(by injection e106);replace fA:=(HB.out.cell (World.block_lt_of_cell? w _ fA)).trans fA;replace eZ:=(HB.out.cell (World.block_lt_of_cell? w _ eZ)).trans eZ;replace p106:=eq_true p106;replace q106:=eq_true q106;have p107:0≤((b9):Int):=of_decide_eq_true zz4;have q107:(b9)<(aC.length:Int):=of_decide_eq_true zz4;obtain⟨nF,e107,dL,iB⟩:=aCo b5.out (b9) p107 q107;have hw107_1:=iB;have hw107_0:=dL;obtain rfl:bR=nF:=(by injection e107);replace dL:=(HB.out.cell (World.block_lt_of_cell? w _ dL)).trans dL;replace iB:=(HB.out.cell (World.block_lt_of_cell? w _ iB)).trans iB;replace p107:=eq_true p107;replace q107:=eq_true q107;refine aE5 (n:=38) (S:=fun w'=>w'.cell? ⟨a7,0,none⟩=some (.int .i64 ((aA4 aC bB).f0))∧w'.cell? ⟨a7,1,none⟩=some (.int .i64 ((aA4 aC bB).f1))∧w'.cell? ⟨aE,0,none⟩=some (.int .i64 aD)∧w'.cell? ⟨aE,1,none⟩=some (.slice (some bR) aC.length aG)∧w'.cell? (bR.add (((b9)).toNat*2))=some (.int .i64 ((aA4 aC (b9)).f0))∧w'.cell? ⟨(bR.add (((b9)).toNat*2)).block,(bR.add (((b9)).toNat*2)).off+1,none⟩=some (.int .i64 ((aA4 aC (b9)).f1))∧w'.cell? (bR.add (((b9)).toNat*2))=some (.int .i64 ((aA4 aC (b9)).f0))∧w'.cell? ⟨(bR.add (((b9)).toNat*2)).block,(bR.add (((b9)).toNat*2)).off+1,none⟩=some (.int .i64 ((aA4 aC (b9)).f1))∧w'.cell? (bR.add (((b9)).toNat*2))=some (.int .i64 ((aA4 aC (b9)).f0))∧w'.cell? ⟨(bR.add (((b9)).toNat*2)).block,(bR.add (((b9)).toNat*2)).off+1,none⟩=some (.int .i64 ((aA4 aC (b9)).f1))) (ds:=[]) (zM 38 0) (by kernel_rfl) rfl rfl ⟨(blk_cell bE.out 0).trans rfl,(blk_cell bE.out 1).trans rfl,(blk_cell aA.out 0).trans rfl,(blk_cell aA.out 1).trans rfl,((HB.out.cell (World.block_lt_of_cell? w _ hw105_0)).trans hw105_0),((HB.out.cell (World.block_lt_of_cell? w _ hw105_1)).trans hw105_1),((HB.out.cell (World.block_lt_of_cell? w _ hw106_0)).trans hw106_0),((HB.out.cell (World.block_lt_of_cell? w _ hw106_1)).trans hw106_1),((HB.out.cell (World.block_lt_of_cell? w _ hw107_0)).trans hw107_0),((HB.out.cell (World.block_lt_of_cell? w _ hw107_1)).trans hw107_1)⟩ (fun hHeld=>?_);refine aDc aAi.tab6 aAi.bits6 (fun HT_ HW_=>?_);generalize w31.drew=w32 at aA bE HB bV dC fA eZ dL iB hHeld ⊢;refine zQ 0 16 (zM 38 1) ?_
   refine zQ 1 17 (zM 38 3) ?_
   refine zQ 2 18 (zM 38 7) ?_
   refine zQ 3 19 (zM 38 15) ?_
   refine zQ 5 21 (zM 38 47) ?_
   refine zQ 7 23 (zM 38 175) ?_
   refine zQ 8 24 (zM 38 431) ?_
   refine take_ (i:=4) (N:=some 20) (v:=?_) (a':=?_) (zM 38 447) rfl rfl (aC0 HT_.out HW_.out (by kernel_rfl)) (fun _ _ _ h=>h) (Or.inl ⟨by rfl,?_⟩) hHeld ?_ ?_;rotate_left
   ·rintro w' ⟨s0,s1,s2,s3,s4,s5,s6,s7,s8,s9⟩;exact zzT
   rotate_left
   ·exact zzS
   refine take_ (i:=6) (N:=some 22) (v:=?_) (a':=?_) (zM 38 511) rfl rfl (aC0 HT_.out HW_.out (by kernel_rfl)) (fun _ _ _ h=>h) (Or.inl ⟨by rfl,?_⟩) hHeld ?_ ?_;rotate_left
   ·rintro w' ⟨s0,s1,s2,s3,s4,s5,s6,s7,s8,s9⟩;exact zzT
   rotate_left
   ·exact zzS
   refine zQ 9 25 (zM 38 1023) ?_
   refine zQ 10 26 (zM 38 2047) ?_
   refine take_ (i:=11) (N:=some 27) (v:=?_) (a':=?_) (zM 38 4095) rfl rfl (aC0 HT_.out HW_.out (by kernel_rfl)) (fun _ _ _ h=>h) (Or.inl ⟨by rfl,?_⟩) hHeld ?_ ?_;rotate_left
   ·rintro w' ⟨s0,s1,s2,s3,s4,s5,s6,s7,s8,s9⟩;exact zzT
   rotate_left
   ·exact zzS
   refine zQ 12 28 (zM 38 8191) ?_
   refine zQ 13 29 (zM 38 16383) ?_
   refine zQ 14 30 (zM 38 32767) ?_
   refine zQ 16 32 (zM 38 98303) ?_
   refine zQ 18 34 (zM 38 360447) ?_
   refine zQ 19 35 (zM 38 884735) ?_
   refine take_ (i:=15) (N:=some 31) (v:=?_) (a':=?_) (zM 38 917503) rfl rfl (aC0 HT_.out HW_.out (by kernel_rfl)) (fun _ _ _ h=>h) (Or.inl ⟨by rfl,?_⟩) hHeld ?_ ?_;rotate_left
   ·rintro w' ⟨s0,s1,s2,s3,s4,s5,s6,s7,s8,s9⟩;exact zzT
   rotate_left
   ·exact zzS
   refine take_ (i:=17) (N:=some 33) (v:=?_) (a':=?_) (zM 38 1048575) rfl rfl (aC0 HT_.out HW_.out (by kernel_rfl)) (fun _ _ _ h=>h) (Or.inl ⟨by rfl,?_⟩) hHeld ?_ ?_;rotate_left
   ·rintro w' ⟨s0,s1,s2,s3,s4,s5,s6,s7,s8,s9⟩;exact zzT
   rotate_left
   ·exact zzS
   refine zQ 20 36 (zM 38 2097151) ?_
   refine zQ 21 37 (zM 38 4194303) ?_
   refine take_ (i:=22) (N:=some 38) (v:=?_) (a':=?_) (zM 38 8388607) rfl rfl (aC0 HT_.out HW_.out (by kernel_rfl)) (fun _ _ _ h=>h) (Or.inl ⟨by rfl,?_⟩) hHeld ?_ ?_;rotate_left
   ·rintro w' ⟨s0,s1,s2,s3,s4,s5,s6,s7,s8,s9⟩;exact zzT
   rotate_left
   ·exact zzS
   refine zQ 23 39 (zM 38 16777215) ?_
   refine zQ 24 40 (zM 38 33554431) ?_
   refine zQ 25 41 (zM 38 67108863) ?_
   refine zQ 27 43 (zM 38 201326591) ?_
   refine zQ 29 45 (zM 38 738197503) ?_
   refine zQ 30 46 (zM 38 1811939327) ?_
   refine take_ (i:=26) (N:=some 42) (v:=?_) (a':=?_) (zM 38 1879048191) rfl rfl (aC0 HT_.out HW_.out (by kernel_rfl)) (fun _ _ _ h=>h) (Or.inl ⟨by rfl,?_⟩) hHeld ?_ ?_;rotate_left
   ·rintro w' ⟨s0,s1,s2,s3,s4,s5,s6,s7,s8,s9⟩;exact zzT
   rotate_left
   ·exact zzS
   refine take_ (i:=28) (N:=some 44) (v:=?_) (a':=?_) (zM 38 2147483647) rfl rfl (aC0 HT_.out HW_.out (by kernel_rfl)) (fun _ _ _ h=>h) (Or.inl ⟨by rfl,?_⟩) hHeld ?_ ?_;rotate_left
   ·rintro w' ⟨s0,s1,s2,s3,s4,s5,s6,s7,s8,s9⟩;exact zzT
   rotate_left
   ·exact zzS
   refine zQ 31 47 (zM 38 4294967295) ?_
   refine zQ 32 48 (zM 38 8589934591) ?_
   refine take_ (i:=33) (N:=some 49) (v:=?_) (a':=?_) (zM 38 17179869183) rfl rfl (aC0 HT_.out HW_.out (by kernel_rfl)) (fun _ _ _ h=>h) (Or.inl ⟨by rfl,?_⟩) hHeld ?_ ?_;rotate_left
   ·rintro w' ⟨s0,s1,s2,s3,s4,s5,s6,s7,s8,s9⟩;exact zzT
   rotate_left
   ·exact zzS
   refine zQ 34 50 (zM 38 34359738367) ?_
   refine zQ 35 51 (zM 38 68719476735) ?_
   refine zQ 36 52 (zM 38 137438953471) ?_
   refine zQ 37 53 (zM 38 274877906943) ?_
   refine aEq (aDy HT_.out (by kernel_rfl)) ?_;(try go_wp2);go_roundg k1;(case measure=>have:=HK1.out;omega);case rel=>exact⟨(wrap64 (bB+1)),zz6,H',⟨aG6⟩,⟨zz0⟩,⟨aJ2⟩⟩
end Go.Proofs.Ytnbljcgdgblgoaa.P
end
