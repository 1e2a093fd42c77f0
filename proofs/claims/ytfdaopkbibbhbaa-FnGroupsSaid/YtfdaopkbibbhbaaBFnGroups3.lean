/- A part of the proof of aE2. -/
import Derived.Test.YtfdaopkbibbhbaaBFnGroups2
import Derived.Test.YtfdaopkbibbhbaaBFnGroups0
import Derived.Deep.RegionLaw
import Derived.Deep.LoopGhost
import Derived.Lib.Walk
import Derived.Lib.SliceRun
import Derived.Test.YtfdaopkbibbhbaaBFnGroupsWApart
import Derived.Test.YtfdaopkbibbhbaaBFnGroupsWMore
import Derived.Test.YtfdaopkbibbhbaaBFnGroupsWWords
import Derived.Shelf.SlSortCmp.NoneTotal
import Derived.Test.YtfdaopkbibbhbaaBFnGroups1
set_option linter.unusedVariables false
set_option linter.unusedSimpArgs false
set_option maxHeartbeats 16000000
set_option maxRecDepth 1000000
namespace Go.Proofs.Ytfdaopkbibbhbaa
open Go.RowKit Go.Proofs.YtfdaopkbibbhbaaW.PrintWords Go.Proofs.YtfdaopkbibbhbaaW.PrintLast Go.Proofs.YtfdaopkbibbhbaaW.PrintMore
attribute [local go_sem] max2_int min2_int max_two min_two max_three min_three max_four min_four
namespace P
def aBf.f (k:Nat) (aE:Int) (aC:List (S73)) (l1:List Int):Option (List Int×Bool):=(aD5.f k aE aC l1 0).bind λd7=>(some (d7.1,d7.2))
theorem aBf.mono:∀ a0 a1 a2 k,LeO (aBf.f k a0 a1 a2) (aBf.f (k+1) a0 a1 a2):=by
 intro a0 a1 a2 k;unfold aBf.f;repeat' first|(with_reducible apply aD5.mono)|(with_reducible exact LeO.refl _)|(with_reducible exact LeO.none _)|(with_reducible refine LeO.ite ?_ ?_)|(with_reducible refine LeO.bind ?_ (λ_=>?_))|apply aD5.mono|exact LeO.none _|refine LeO.ite ?_ ?_|refine LeO.bind ?_ (λ_=>?_)
theorem aBf.calls (k:Nat) (aE:Int) (aQ:Option Addr) (aG:Nat) (aC:List (S73)) (A1:Option Addr) (c1:Nat) (l1:List Int) (r1:List Int) (r2:Bool) (w:World) (hr0_1:Kd.C k73 w aQ aC.length aC) (hc0_1:aC.length<=aG) (hr1:Kd.C (Kd.int .i64) w A1 l1.length l1) (hc1:l1.length<=c1) (h:aBf.f k aE aC l1=some (r1,r2)) :
  Calls Try.prog 32 #[.agg #[.int .i64 aE,.slice aQ aC.length aG],.slice A1 l1.length c1] w λe w'=>∃ v0_:Value,e = .returned (.tuple #[v0_,.bool r2])/\Kd.R (Kd.int .i64) 3 w' w.heap.size (λ_=>True) v0_ r1/\Below w.heap.size w w':=by
 have aIh:=Try.underlying25;have b7:=zK_ hr0_1;have bY:=zK_ hc0_1;clear hr0_1 hc0_1;have HR1:=zK_ hr1;have HC1:=zK_ hc1;clear hr1 hc1;have HB:=zK_ (Below.refl w.heap.size w);have H:((aD5.f k aE aC l1 0).bind λd7=>(some (d7.1,d7.2)))=some (r1,r2):=h;clear h;replace H:=zO_ H;obtain⟨⟨aX,eG⟩,A30,H⟩:=H;dsimp only at H;have A3:=zK_ A30;clear A30;simp only[Option.some.injEq,Prod.mk.injEq]at H;obtain⟨rfl,rfl⟩:=H;go_enter Try.func32,Try.ntmps32;(go_wp2_with (first|((with_reducible refine aAw (N:=2) rfl ?_);refine aAq ?hg (N:=2) ?hd (cs:=#[.int .i64 aE,.slice aQ aC.length aG]) (t:=25) ?hr ?_;(case hd=>rfl);(case hg=>rfl);(case hr=>exact aDq);intro aD hg w4 hbox hb;have n_:=zA4 (aA3 zz2 hb) hbox (aE1:w.heap.size<=aD) (aE1:w.heap.size<=aD);clear HB;obtain⟨HB,aA,aDt,aDe⟩:=n_;clear hb hbox hg;have mG:=aCg aA;have mF:=aCf aA;have m9:=aA0 aA.out 0;have mE:=aA0 aA.out 1)|((with_reducible refine aAa (f:=73) rfl ?_);refine aBg (some 8) rfl rfl Try.func73 (by kernel_rfl) rfl #[.agg #[.int .i64 aE,.slice aQ aC.length aG],.slice A1 l1.length c1,.int .i64 0] rfl zz3 ?_;(with_reducible refine(aD5.calls k aE _ _ aC _ _ l1 0 aX eG _ ?side1 ?side2 ?side3 ?side4 A3.out).mono ?_);(case side1=>exact zz7);(case side2=>exact bY.out);(case side3=>exact aP9);(case side4=>exact HC1.out);rintro e w6 ⟨aWc,rfl,ho0,hb⟩;refine⟨_,rfl,?_⟩;have n_:=zA3 (Kd.aCm ho0 (aAj zz1)) (aA4 (g:=aD) (o:=.cells #[.int .i64 aE,.slice aQ aC.length aG] 25 (0,0)) zz0 hb) (aA3 zz1 hb);clear aA HB;obtain⟨cQ,aA,HB⟩:=n_;clear ho0 hb)));(go_ret2);exact⟨_,zz9,aMv,zz1⟩
def aB4.l0:Nat->List Int->Int->Int->Option (List Int)
 | 0,_,_,_=>none
 | k+1,x3,x8,x9=>if x9<x8 then(if 0<=x9 then(if x9<(x3.length:Int) then(aB4.l0 k (x3.set (x9:Int).toNat (wrap64 (-(rd x3 x9)))) x8 (wrap64 (x9+1))) else(none)) else(none)) else(some x3)
def aB4.f (k:Nat) (l0:List Int):Option (List Int):=(aCk.f l0).bind λbP=>(aB4.l0 k bP (bP.length:Int) 0)
theorem aB4.aBa:∀ k,(∀ y0 y1 y2,LeO (aB4.l0 k y0 y1 y2) (aB4.l0 (k+1) y0 y1 y2))
 | 0=>λ_ _ _ r h=>by simp[aB4.l0]at h
 | k+1=>by
  have ih0:=aB4.aBa k
  ·intro y0 y1 y2
   unfold aB4.l0
   exact zm0
theorem aB4.mono:∀ a0 k,LeO (aB4.f k a0) (aB4.f (k+1) a0):=by
 intro a0 k;have ih0:=aB4.aBa k;unfold aB4.f;exact zm0
theorem aB4.calls (k:Nat) (A0:Option Addr) (c0:Nat) (l0:List Int) (r:List Int) (w:World) (hr0:Kd.C (Kd.int .i64) w A0 l0.length l0) (hc0:l0.length<=c0) (h:aB4.f k l0=some r) :
  Calls Try.prog 71 #[.slice A0 l0.length c0] w λe w'=>∃ v0_:Value,e = .returned (v0_)/\Kd.R (Kd.int .i64) 3 w' w.heap.size (λ_=>True) v0_ r/\Below w.heap.size w w':=by
 have HR0:=zK_ hr0;have HC0:=zK_ hc0;clear hr0 hc0;have HB:=zK_ (Below.refl w.heap.size w);have H:((aCk.f l0).bind λbP=>(aB4.l0 k bP (bP.length:Int) 0))=some r:=h;clear h;obtain⟨bP,A20,H⟩:=zO_ H;(try dsimp only at H);have A2:=zK_ A20;clear A20;have H':=zK_ H;clear H;go_enter Try.func71,Try.ntmps71;(go_wp2_with (first|((with_reducible refine aAa (f:=43) rfl ?_);refine aBg (some 6) rfl rfl Try.func43 (by kernel_rfl) rfl #[.slice A0 l0.length c0] rfl zz3 ?_;(with_reducible refine(aCk.calls _ _ l0 bP _ ?side1 ?side2 A2.out).mono ?_);(case side1=>exact aY9);(case side2=>exact HC0.out);rintro e w3 ⟨bGs,rfl,ho0,hb⟩;refine⟨_,rfl,?_⟩;have n_:=zA2 (Kd.aCm ho0 (aAj zz2)) (aA3 zz2 hb);clear HB;obtain⟨m6,HB⟩:=n_;clear ho0 hb;obtain⟨Ao4,co4,PW⟩:=Kd.aBe m6.out;subst PW)));(go_loopg [9] k (λkq v9 w'=>∃ (dJ:List Int) (b8:Int),v9 = .int .i64 b8/\aA1 (aB4.l0 kq dJ (bP.length:Int) b8=some r)/\aA1 (kq<=k)/\aA1 (Kd.R (Kd.int .i64) 3 w' w.heap.size (λ_=>True) (.slice Ao4 bP.length co4) dJ)/\aA1 (Below w.heap.size w w')));case atStart=>exact⟨(bP),(0),zz5,H',⟨Nat.le_refl _⟩,⟨by(with_reducible repeat(first|apply Kd.aAu|apply Kd.aAt|apply Kd.aB5));exact m6.out⟩,⟨zz2⟩⟩
 case round =>
  clear H';(try clear p2);(try clear c4);obtain⟨dJ,b8,rfl,HA,HK1,bV,HB⟩:=hrel;have l6:=(Kd.aAc bV.out).1;rw[l6]at bV;(try simp only[l6])
  cases gk with
  | zero=>exact absurd HA.out (by simp[aB4.l0])
  | succ k1 =>
   have H:=HA.out;clear HA;simp only[aB4.l0]at H;by_cases c5:b8<(bP.length:Int);rotate_left
   ·rw[if_neg c5]at H;have fL:=zdN c5;(try(have mV:=fL;first|rw[l6]at mV|rw[<-l6]at mV));clear c5;obtain rfl:=zdI H;go_wp2;go_ret;exact⟨_,zz9,aK9,zz2⟩
   rw[if_pos c5]at H;have fL:=zdY c5;(try(have mV:=fL;first|rw[l6]at mV|rw[<-l6]at mV));clear c5;by_cases c6:0<=b8;rotate_left
   ·rw[if_neg c6]at H;exact absurd H (by simp)
   rw[if_pos c6]at H;have iT:=zdY c6;clear c6;by_cases c7:b8<(dJ.length:Int);rotate_left
   ·rw[if_neg c7]at H;exact absurd H (by simp)
   rw[if_pos c7]at H;have jE:=zdY c7;(try(have sO:=jE;first|rw[l6]at sO|rw[<-l6]at sO));clear c7;obtain⟨i8,hy_⟩:∃ y_:List Int,y_=(dJ.set (b8:Int).toNat (wrap64 (-(rd dJ b8)))):=⟨_,rfl⟩;(replace H:(aB4.l0 k1 i8 (bP.length:Int) (wrap64 (b8+1)))=some r:=zzY);have mZ:=zK_ hy_;clear hy_;have H':=zK_ H;clear H;have aJi:0<=(b8:Int):=zdT zz4;have aJg:b8<(dJ.length:Int):=zdT zz4;obtain⟨i5,aSm,dQ⟩:=Kd.aCz (Kd.aAc bV.out).2.2 b8 aJi aJg;cases aSm;replace aJi:=eq_true aJi;replace aJg:=eq_true aJg;have p8:0<=(b8:Int):=zdT zz4;have q8:(b8:Int)<((dJ.length:Int):Int):=zdT zz4;obtain⟨go8,co8,O1,OZ,gl8,cl8,HG8⟩:=Kd.aHs bV.out (by omega);(first|cases O1|(injection O1 with ea_ en_ ec_;(first|subst ea_|(injection ea_ with ea_;subst ea_));subst ec_;clear en_));have P4:=zK_ OZ;have P6:=zK_ HG8;clear OZ gl8 HG8;(first|simp only[add_plain]at dQ|skip);obtain⟨MD,OY⟩:=Kd.aEb 0 bV.out (b8:Int) p8 q8;replace p8:=eq_true p8;replace q8:=eq_true q8;have L6:=Kd.aIb bV.out (b8:Int) (wrap64 (-(rd dJ b8)));(go_wp2_with (first|((with_reducible refine aEa (t:=3) (p:=19) rfl ?_);refine aE5 (t:=3) (p:=19) (v:=?vo_w10) (w1:=(wr.setCell ⟨go8,(b8:Int).toNat,none⟩ (.int .i64 (wrap64 (-(rd dJ b8)))))) ?hg ?ho ?hn ?hr ?_;(case ho=>rfl);(case hg=>rfl);(case hn=>rfl);(case hr=>exact aDq);intro w10 hw;have hg:wr.grownBy w10 (some go8):=(by rw[hw];exact L6.2);have hp_:Kd.R (Kd.int .i64) 3 w10 w.heap.size (λ_=>True) (.slice (some ⟨go8,0,none⟩) dJ.length co4) i8:=(by rw[hw,mZ.out];exact L6.1);clear L6;have n_:=zA2 hp_ (by rw[hw];exact aAi (HB.out) P4.out:Below w.heap.size w w10);clear bV HB;obtain⟨bV,HB⟩:=n_;clear hg hw hp_)));(try simp only[<-l6]);go_roundg k1;(case measure=>have:=HK1.out;omega);case rel=>exact⟨(i8),(wrap64 (b8+1)),zz5,H',⟨aFc⟩,⟨by(try simp only[l6]);(with_reducible repeat(first|apply Kd.aAu|apply Kd.aAt|apply Kd.aB5));exact bV.out⟩,⟨zz2⟩⟩
def aBl.f (k:Nat) (aE:Int) (aC:List (S73)) (l1:List Int):Option (List Int×Bool):=(aBi.f k aE aC l1).bind λaX=>(if aX=true then((aB4.f k l1).bind λbE=>((aBf.f k aE aC bE).bind λhU=>(some (hU.1,hU.2)))) else(some (([]:List Int),false)))
theorem aBl.mono:∀ a0 a1 a2 k,LeO (aBl.f k a0 a1 a2) (aBl.f (k+1) a0 a1 a2):=by
 intro a0 a1 a2 k;unfold aBl.f;repeat' first|(with_reducible apply aB4.mono)|(with_reducible apply aBf.mono)|(with_reducible apply aBi.mono)|(with_reducible exact LeO.refl _)|(with_reducible exact LeO.none _)|(with_reducible refine LeO.ite ?_ ?_)|(with_reducible refine LeO.bind ?_ (λ_=>?_))|apply aB4.mono|apply aBf.mono|apply aBi.mono|exact LeO.none _|refine LeO.ite ?_ ?_|refine LeO.bind ?_ (λ_=>?_)
def aBl.T3:Bool×List (List Nat×List Nat):=(true,[([],[]),([],[]),([1],[1]),([0,2,2],[0,2]),([3],[3]),([3],[3]),([4,3,0,1,2,3,4,5],[4]),([5,6,0,1,2,3,4,5,6],[5])])
def aBl.B3:List Nat:=[0,0,2,7,15,15,63,127]
theorem aBl.bD5:aI2 .any (opsOf Try.f29 3)=aBl.T3:=by kernel_rfl
theorem aBl.aV8:aFh aBl.T3.2 aBl.B3=true:=by kernel_rfl
theorem aBl.calls (k:Nat) (aE:Int) (aQ:Option Addr) (aG:Nat) (aC:List (S73)) (A1:Option Addr) (c1:Nat) (l1:List Int) (r1:List Int) (r2:Bool) (w:World) (hr0_1:Kd.C k73 w aQ aC.length aC) (hc0_1:aC.length<=aG) (hr1:Kd.C (Kd.int .i64) w A1 l1.length l1) (hc1:l1.length<=c1) (h:aBl.f k aE aC l1=some (r1,r2)) :
  Calls Try.prog 29 #[.agg #[.int .i64 aE,.slice aQ aC.length aG],.slice A1 l1.length c1] w λe w'=>∃ v0_:Value,e = .returned (.tuple #[v0_,.bool r2])/\Kd.R (Kd.int .i64) 3 w' w.heap.size (λ_=>True) v0_ r1/\Below w.heap.size w w':=by
 have aIh:=Try.underlying25;have b7:=zK_ hr0_1;have bY:=zK_ hc0_1;clear hr0_1 hc0_1;have HR1:=zK_ hr1;have HC1:=zK_ hc1;clear hr1 hc1;have HB:=zK_ (Below.refl w.heap.size w);have H:((aBi.f k aE aC l1).bind λaX=>(if aX=true then((aB4.f k l1).bind λbE=>((aBf.f k aE aC bE).bind λhU=>(some (hU.1,hU.2)))) else(some (([]:List Int),false))))=some (r1,r2):=h;clear h;obtain⟨aX,A30,H⟩:=zO_ H;(try dsimp only at H);have A3:=zK_ A30;clear A30;by_cases c4:aX=true;rotate_left
 ·replace c4:=zdB c4;subst c4;rw[if_neg (show ¬ (false=true) by decide)]at H;simp only[Option.some.injEq,Prod.mk.injEq]at H;obtain⟨rfl,rfl⟩:=H;go_enter Try.func29,Try.ntmps29;(go_wp2_with (first|((with_reducible refine aAw (N:=2) rfl ?_);refine aAq ?hg (N:=2) ?hd (cs:=#[.int .i64 aE,.slice aQ aC.length aG]) (t:=25) ?hr ?_;(case hd=>rfl);(case hg=>rfl);(case hr=>exact aDq);intro aD hg w14 hbox hb;have n_:=zA4 (aA3 zz2 hb) hbox (aE1:w.heap.size<=aD) (aE1:w.heap.size<=aD);clear HB;obtain⟨HB,aA,aDt,aDe⟩:=n_;clear hb hbox hg;have eT:=aCg aA;have eS:=aCf aA;have eR:=aA0 aA.out 0;have eQ:=aA0 aA.out 1)|((with_reducible refine aAa (f:=68) rfl ?_);refine aBg (some 8) rfl rfl Try.func68 (by kernel_rfl) rfl #[.agg #[.int .i64 aE,.slice aQ aC.length aG],.slice A1 l1.length c1] rfl zz3 ?_;(with_reducible refine(aBi.calls k aE _ _ aC _ _ l1 false _ ?side1 ?side2 ?side3 ?side4 A3.out).mono ?_);(case side1=>exact zz7);(case side2=>exact bY.out);(case side3=>exact aP9);(case side4=>exact HC1.out);rintro e w16 ⟨rfl,hb⟩;refine⟨_,rfl,?_⟩;have n_:=zA2 (aA4 (g:=aD) (o:=.cells #[.int .i64 aE,.slice aQ aC.length aG] 25 (0,0)) zz0 hb) (aA3 zz1 hb);clear aA HB;obtain⟨aA,HB⟩:=n_;clear hb)));(go_ret2);exact⟨_,zz9,aW2,zz1⟩
 subst c4;rw[if_pos rfl]at H;obtain⟨bE,A50,H⟩:=zO_ H;(try dsimp only at H);have A5:=zK_ A50;clear A50;replace H:=zO_ H;obtain⟨⟨b3,cV⟩,A60,H⟩:=H;dsimp only at H;have A6:=zK_ A60;clear A60;simp only[Option.some.injEq,Prod.mk.injEq]at H;obtain⟨rfl,rfl⟩:=H;go_enter Try.func29,Try.ntmps29;(try go_wp2_with (first|((with_reducible refine aAw (N:=2) rfl ?_);refine aAq ?hg (N:=2) ?hd (cs:=#[.int .i64 aE,.slice aQ aC.length aG]) (t:=25) ?hr ?_;(case hd=>rfl);(case hg=>rfl);(case hr=>exact aDq);intro aD hg w7 hbox hb;have n_:=zA4 (aA3 zz2 hb) hbox (aE1:w.heap.size<=aD) (aE1:w.heap.size<=aD);clear HB;obtain⟨HB,aA,aDt,aDe⟩:=n_;clear hb hbox hg;have jZ:=aCg aA;have jY:=aCf aA;have jX:=aA0 aA.out 0;have jW:=aA0 aA.out 1)|((with_reducible refine aAa (f:=68) rfl ?_);refine aBg (some 8) rfl rfl Try.func68 (by kernel_rfl) rfl #[.agg #[.int .i64 aE,.slice aQ aC.length aG],.slice A1 l1.length c1] rfl zz3 ?_;(with_reducible refine(aBi.calls k aE _ _ aC _ _ l1 true _ ?side1 ?side2 ?side3 ?side4 A3.out).mono ?_);(case side1=>exact zz7);(case side2=>exact bY.out);(case side3=>exact aP9);(case side4=>exact HC1.out);rintro e w9 ⟨rfl,hb⟩;refine⟨_,rfl,?_⟩;have n_:=zA2 (aA4 (g:=aD) (o:=.cells #[.int .i64 aE,.slice aQ aC.length aG] 25 (0,0)) zz0 hb) (aA3 zz1 hb);clear aA HB;obtain⟨aA,HB⟩:=n_;clear hb)));have n_:=zA2 (aA9 aA.out) (aB3 HB.out);clear aA HB;obtain⟨aA,HB⟩:=n_;refine aFy (n:=8) (S:=λw'=>w'.cell? ⟨aD,0,none⟩=some (.int .i64 aE)/\w'.cell? ⟨aD,1,none⟩=some (.slice aQ aC.length aG)) (ds:=[]) (zM 8 0) (by kernel_rfl) rfl rfl ⟨(aAs aA.out 0).trans rfl,(aAs aA.out 1).trans rfl⟩ (λhHeld=>?_);refine aE7 aBl.bD5 aBl.aV8 (λHT_ HW_=>?_);generalize w9.drew=w10 at aA HB hHeld ⊢;refine zQ 1 11 (zM 8 2) ?_
 refine aEc (i:=0) (N:=some 10) (v:=?_) (a':=?_) (zM 8 3) rfl rfl (aCp HT_.out HW_.out (by kernel_rfl)) (λ_ _ _ h=>h) (Or.inl ⟨by rfl,?_⟩) hHeld ?_ ?_;rotate_left
 ·rintro w' ⟨s0,s1⟩;exact zzT
 rotate_left
 ·exact zzS
 refine aLu (i:=2) (N:=some 12) (zM 8 7) rfl rfl (aEs HT_.out (by kernel_rfl)) (by decide) (λK hK=>?_);refine aGd Try.func71 (by kernel_rfl) rfl #[.slice A1 l1.length c1] (by rfl) rfl rfl zz3 ?_;(with_reducible refine(aB4.calls k _ _ l1 bE _ ?side1 ?side2 A5.out).mono ?_);(case side1=>exact aP9);(case side2=>exact HC1.out);rintro e w11 ⟨bGr,rfl,ho0,hb⟩;refine⟨_,rfl,?_⟩;have n_:=zA3 (Kd.aCm ho0 (aAj zz1)) (aA4 (g:=aD) (o:=.cells #[.int .i64 aE,.slice aQ aC.length aG] 25 (0,0)) zz0 hb) (aA3 zz1 hb);clear aA HB;obtain⟨gT,aA,HB⟩:=n_;clear ho0 hb;obtain⟨aZ4,aXu,rM⟩:=Kd.aBe gT.out;(first|subst rM|(injection rM with f1_ f2_ f3_;have f4_:=f1_.symm;have f5_:=f3_.symm;clear f1_ f2_ f3_;subst f4_;subst f5_));refine hK.out _ _ ⟨(aAs aA.out 0).trans rfl,(aAs aA.out 1).trans rfl⟩ (λhHeld=>?_);clear hK K;refine aEm (a':=?_) ?_ ?_;rotate_left
 ·show Act.put _ (some 12) _=_;exact zzS
 refine aLu (i:=3) (N:=some 13) (zM 8 15) rfl rfl (aEs HT_.out (by kernel_rfl)) (by decide) (λK hK=>?_);refine aGd Try.func32 (by kernel_rfl) rfl #[.agg #[.int .i64 aE,.slice aQ aC.length aG],.slice aZ4 bE.length aXu] (by rfl) rfl rfl zz3 ?_;(with_reducible refine(aBf.calls k aE _ _ aC _ _ bE b3 cV _ ?side1 ?side2 ?side3 ?side4 A6.out).mono ?_);(case side1=>exact zz7);(case side2=>exact bY.out);(case side3=>repeat(first|exact(Kd.aAc gT.out).2.2|(with_reducible refine Kd.aCr ?_ _)|(with_reducible refine Kd.aCq ?_ _)|(with_reducible refine Kd.aDf ?_)));(case side4=>exact(Kd.aAc gT.out).2.1);rintro e w13 ⟨v107,rfl,ho0,hb⟩;refine⟨_,rfl,?_⟩;have n_:=zA4 (Kd.aBz (by(with_reducible repeat(first|apply Kd.aAu|apply Kd.aAt|apply Kd.aB5));exact gT.out) (Kd.aCw ho0) hb) (Kd.aCm (Kd.aD2 ho0 (Kd.aEy (by(with_reducible repeat(first|apply Kd.aAu|apply Kd.aAt|apply Kd.aB5));exact gT.out))) (aAj zz1)) (aA4 (g:=aD) (o:=.cells #[.int .i64 aE,.slice aQ aC.length aG] 25 (0,0)) zz0 hb) (aA3 zz1 hb);clear gT aA HB;obtain⟨gT,gD,aA,HB⟩:=n_;clear ho0 hb;refine hK.out _ _ ⟨(aAs aA.out 0).trans rfl,(aAs aA.out 1).trans rfl⟩ (λhHeld=>?_);clear hK K;refine aEm (a':=?_) ?_ ?_;rotate_left
 ·show Act.put _ (some 13) _=_;exact zzS
 refine zQ 4 14 (zM 8 31) ?_
 refine zQ 5 15 (zM 8 63) ?_
 refine zQ 6 4 (zM 8 127) ?_
 refine zQ 7 5 (zM 8 255) ?_
 refine aI3 (aF7 HT_.out (by kernel_rfl)) ?_;(try go_wp2);(go_ret2);exact⟨_,zz9,by(with_reducible repeat(first|apply Kd.aAu|apply Kd.aAt|apply Kd.aB5));exact Kd.aBh gD.out (λ_ hk=>trivial),zz1⟩
def aC2.l0:Nat->List Int->List Int->Int->Int->Option (Bool)
 | 0,_,_,_,_=>none
 | k+1,x1,k5,fQ,oO=>if oO<fQ then(if 0<=oO then(if oO<(k5.length:Int) then(if oO<(x1.length:Int) then(if(rd k5 oO)=(rd x1 oO) then(aC2.l0 k x1 k5 fQ (wrap64 (oO+1))) else(some false)) else(none)) else(none)) else(none)) else(some true)
def aC2.f (k:Nat) (l0:List Int) (l1:List Int):Option (Bool):=if(l0.length:Int)=(l1.length:Int) then(aC2.l0 k l1 l0 (l0.length:Int) 0) else(some false)
theorem aC2.aBa:∀ k,(∀ y0 y1 y2 y3,LeO (aC2.l0 k y0 y1 y2 y3) (aC2.l0 (k+1) y0 y1 y2 y3))
 | 0=>λ_ _ _ _ r h=>by simp[aC2.l0]at h
 | k+1=>by
  have ih0:=aC2.aBa k
  ·intro y0 y1 y2 y3
   unfold aC2.l0
   exact zm0
theorem aC2.mono:∀ a0 a1 k,LeO (aC2.f k a0 a1) (aC2.f (k+1) a0 a1):=by
 intro a0 a1 k;have ih0:=aC2.aBa k;unfold aC2.f;exact zm0
theorem aC2.calls (k:Nat) (A0:Option Addr) (c0:Nat) (l0:List Int) (A1:Option Addr) (c1:Nat) (l1:List Int) (r:Bool) (w:World) (hr0:Kd.C (Kd.int .i64) w A0 l0.length l0) (hc0:l0.length<=c0) (hr1:Kd.C (Kd.int .i64) w A1 l1.length l1) (hc1:l1.length<=c1) (h:aC2.f k l0 l1=some r) :
  Calls Try.prog 30 #[.slice A0 l0.length c0,.slice A1 l1.length c1] w λe w'=>e = .returned (.bool r)/\aB8 w w':=by
 have HR0:=zK_ hr0;have HC0:=zK_ hc0;clear hr0 hc0;have HR1:=zK_ hr1;have HC1:=zK_ hc1;clear hr1 hc1;have H:(if(l0.length:Int)=(l1.length:Int) then(aC2.l0 k l1 l0 (l0.length:Int) 0) else(some false))=some r:=h;clear h;by_cases c3:(l0.length:Int)=(l1.length:Int);rotate_left
 ·rw[if_neg c3]at H;have i4:((l0.length:Int)==(l1.length:Int))=false:=beq_eq_false_iff_ne.mpr c3;have D1:((l0.length:Int) != (l1.length:Int))=true:=bne_iff_ne.mpr c3;(have D0:(l0.length==l1.length)=false:=by first|simpa using c3|(simp at c3 ⊢;omega));obtain rfl:=zdI H;go_enter Try.func30,Try.ntmps30;go_wp2;go_ret;exact⟨zz5,by repeat(first|exact aB8.refl _|apply aB8.step)⟩
 rw[if_pos c3]at H;have i4:((l0.length:Int)==(l1.length:Int))=true:=beq_iff_eq.mpr c3;have D1:((l0.length:Int) != (l1.length:Int))=false:=bne_eq_false_iff_eq.mpr c3;(have D0:(l0.length==l1.length)=true:=by first|simpa using c3|(simp at c3 ⊢;omega));clear c3;have H':=zK_ H;clear H;go_enter Try.func30,Try.ntmps30;go_wp2;(go_loopg [14] k (λkq v14 w'=>∃ (dK:Int),v14 = .int .i64 dK/\aA1 (aC2.l0 kq l1 l0 (l0.length:Int) dK=some r)/\aA1 (kq<=k)/\aB8 w w'));case atStart=>exact⟨(0),zz5,H',⟨Nat.le_refl _⟩,by repeat(first|exact aB8.refl _|apply aB8.step)⟩
 case round =>
  clear H';(try clear c1);(try clear p2);(try clear c3);(try clear i4);(try clear D1);(try clear D0);obtain⟨dK,rfl,HA,HK1,⟨m1,rfl⟩⟩:=hrel
  cases gk with
  | zero=>exact absurd HA.out (by simp[aC2.l0])
  | succ k1 =>
   have H:=HA.out;clear HA;simp only[aC2.l0]at H;by_cases c4:dK<(l0.length:Int);rotate_left
   ·rw[if_neg c4]at H;have iI:=zdN c4;clear c4;obtain rfl:=zdI H;go_wp2;go_ret;exact⟨zz5,by repeat(first|exact aB8.refl _|apply aB8.step)⟩
   rw[if_pos c4]at H;have iI:=zdY c4;clear c4;by_cases c5:0<=dK;rotate_left
   ·rw[if_neg c5]at H;exact absurd H (by simp)
   rw[if_pos c5]at H;have fL:=zdY c5;clear c5;by_cases c6:dK<(l0.length:Int);rotate_left
   ·rw[if_neg c6]at H;exact absurd H (by simp)
   rw[if_pos c6]at H;have iT:=zdY c6;clear c6;by_cases c7:dK<(l1.length:Int);rotate_left
   ·rw[if_neg c7]at H;exact absurd H (by simp)
   rw[if_pos c7]at H;have jE:=zdY c7;clear c7;by_cases c8:(rd l0 dK)=(rd l1 dK);rotate_left
   ·rw[if_neg c8]at H;have i3:((rd l0 dK)==(rd l1 dK))=false:=beq_eq_false_iff_ne.mpr c8;have yM:((rd l0 dK) != (rd l1 dK))=true:=bne_iff_ne.mpr c8;obtain rfl:=zdI H;have aE0:0<=(dK:Int):=zdT zz4;have aDz:dK<(l0.length:Int):=zdT zz4;obtain⟨fC,aG5,bU⟩:=Kd.aCz HR0.out dK aE0 aDz;cases aG5;replace aE0:=eq_true aE0;replace aDz:=eq_true aDz;have aFe:0<=(dK:Int):=zdT zz4;have aFd:dK<(l1.length:Int):=zdT zz4;obtain⟨d8,aJn,cJ⟩:=Kd.aCz HR1.out dK aFe aFd;cases aJn;replace aFe:=eq_true aFe;replace aFd:=eq_true aFd;go_wp2;go_ret;exact⟨zz5,by repeat(first|exact aB8.refl _|apply aB8.step)⟩
   rw[if_pos c8]at H;have i3:((rd l0 dK)==(rd l1 dK))=true:=beq_iff_eq.mpr c8;have yM:((rd l0 dK) != (rd l1 dK))=false:=bne_eq_false_iff_eq.mpr c8;clear c8;have H':=zK_ H;clear H;have aE0:0<=(dK:Int):=zdT zz4;have aDz:dK<(l0.length:Int):=zdT zz4;obtain⟨fC,aG5,bU⟩:=Kd.aCz HR0.out dK aE0 aDz;cases aG5;replace aE0:=eq_true aE0;replace aDz:=eq_true aDz;have aFe:0<=(dK:Int):=zdT zz4;have aFd:dK<(l1.length:Int):=zdT zz4;obtain⟨d8,aJn,cJ⟩:=Kd.aCz HR1.out dK aFe aFd;cases aJn;replace aFe:=eq_true aFe;replace aFd:=eq_true aFd;go_wp2;go_roundg k1;(case measure=>have:=HK1.out;omega);case rel=>exact⟨(wrap64 (dK+1)),zz5,H',⟨aFc⟩,by repeat(first|exact aB8.refl _|apply aB8.step)⟩
def aBm.l0:Nat->List (List Int)->List (List Int)->Int->Int->Option (Bool)
 | 0,_,_,_,_=>none
 | k+1,x0,x8,x9,fK=>if fK<x9 then(if 0<=fK then(if fK<(x8.length:Int) then(if((aDo x8 fK).length:Int)=(x0.length:Int) then((aB7.f k (aDo x8 fK) (-500) 500).bind λaX=>(if aX=true then(aBm.l0 k x0 x8 x9 (wrap64 (fK+1))) else(some false))) else(some false)) else(none)) else(none)) else(some true)
def aBm.f (k:Nat) (l0:List (List Int)):Option (Bool):=if(l0.length:Int)>6 then(some false) else(aBm.l0 k l0 l0 (l0.length:Int) 0)
theorem aBm.aBa:∀ k,(∀ y0 y1 y2 y3,LeO (aBm.l0 k y0 y1 y2 y3) (aBm.l0 (k+1) y0 y1 y2 y3))
 | 0=>λ_ _ _ _ r h=>by simp[aBm.l0]at h
 | k+1=>by
  have ih0:=aBm.aBa k
  ·intro y0 y1 y2 y3
   unfold aBm.l0
   exact bI1
theorem aBm.mono:∀ a0 k,LeO (aBm.f k a0) (aBm.f (k+1) a0):=by
 intro a0 k;have ih0:=aBm.aBa k;unfold aBm.f;exact bI1
theorem aBm.calls (k:Nat) (A0:Option Addr) (c0:Nat) (l0:List (List Int)) (r:Bool) (w:World) (hr0:Kd.C (Kd.slice 3 (Kd.int .i64)) w A0 l0.length l0) (hc0:l0.length<=c0) (h:aBm.f k l0=some r) :
  Calls Try.prog 61 #[.slice A0 l0.length c0] w λe w'=>e = .returned (.bool r)/\aB8 w w':=by
 have HR0:=zK_ hr0;have HC0:=zK_ hc0;clear hr0 hc0;have H:(if(l0.length:Int)>6 then(some false) else(aBm.l0 k l0 l0 (l0.length:Int) 0))=some r:=h;clear h;by_cases c2:(l0.length:Int)>6
 ·rw[if_pos c2]at H;have mH:decide (6<(l0.length:Int))=true:=zdY c2;have rN:decide (6<l0.length)=true:=zdY (by omega);clear c2;obtain rfl:=zdI H;go_enter Try.func61,Try.ntmps61;go_wp2;go_ret;exact⟨zz5,by repeat(first|exact aB8.refl _|apply aB8.step)⟩
 rw[if_neg c2]at H;have mH:decide (6<(l0.length:Int))=false:=zdN c2;have rN:decide (6<l0.length)=false:=zdN (by omega);clear c2;have H':=zK_ H;clear H;go_enter Try.func61,Try.ntmps61;go_wp2;(go_loopg [10] k (λkq v10 w'=>∃ (cC:Int),v10 = .int .i64 cC/\aA1 (aBm.l0 kq l0 l0 (l0.length:Int) cC=some r)/\aA1 (kq<=k)/\aB8 w w'));case atStart=>exact⟨(0),zz5,H',⟨Nat.le_refl _⟩,by repeat(first|exact aB8.refl _|apply aB8.step)⟩
 case round =>
  clear H';(try clear c2);(try clear mH);(try clear rN);(try clear p2);obtain⟨cC,rfl,HA,HK1,⟨m1,rfl⟩⟩:=hrel
  cases gk with
  | zero=>exact absurd HA.out (by simp[aBm.l0])
  | succ k1 =>
   have H:=HA.out;clear HA;simp only[aBm.l0]at H;by_cases c3:cC<(l0.length:Int);rotate_left
   ·rw[if_neg c3]at H;have i4:=zdN c3;(try(have oP:=i4;first|rw[iK]at oP|rw[<-iK]at oP));clear c3;obtain rfl:=zdI H;go_wp2;go_ret;exact⟨zz5,by repeat(first|exact aB8.refl _|apply aB8.step)⟩
   rw[if_pos c3]at H;have i4:=zdY c3;clear c3;by_cases c4:0<=cC;rotate_left
   ·rw[if_neg c4]at H;exact absurd H (by simp)
   rw[if_pos c4]at H;have iI:=zdY c4;clear c4;by_cases c5:cC<(l0.length:Int);rotate_left
   ·rw[if_neg c5]at H;exact absurd H (by simp)
   rw[if_pos c5]at H;have fL:=zdY c5;clear c5;by_cases c6:((aDo l0 cC).length:Int)=(l0.length:Int);rotate_left
   ·rw[if_neg c6]at H;have iT:(((aDo l0 cC).length:Int)==(l0.length:Int))=false:=beq_eq_false_iff_ne.mpr c6;have nI:(((aDo l0 cC).length:Int) != (l0.length:Int))=true:=bne_iff_ne.mpr c6;(have L0:((aDo l0 cC).length==l0.length)=false:=by first|simpa using c6|(simp at c6 ⊢;omega));obtain rfl:=zdI H;have aE0:0<=(cC:Int):=zdT zz4;have aDz:cC<(l0.length:Int):=zdT zz4;obtain⟨fC,A101_0,c101_0,aG5,bU,iK,hi101_0⟩:=aSq HR0.out cC aE0 aDz;cases aG5;have HR101_0:=zK_ hi101_0;have HC101_0:=zK_ iK;clear hi101_0 iK;replace aE0:=eq_true aE0;replace aDz:=eq_true aDz;go_wp2;go_ret;exact⟨zz5,by repeat(first|exact aB8.refl _|apply aB8.step)⟩
   rw[if_pos c6]at H;have iT:(((aDo l0 cC).length:Int)==(l0.length:Int))=true:=beq_iff_eq.mpr c6;have nI:(((aDo l0 cC).length:Int) != (l0.length:Int))=false:=bne_eq_false_iff_eq.mpr c6;(have L0:((aDo l0 cC).length==l0.length)=true:=by first|simpa using c6|(simp at c6 ⊢;omega));clear c6;obtain⟨aX,A70,H⟩:=zO_ H;(try dsimp only at H);have A7:=zK_ A70;clear A70;by_cases c8:aX=true;rotate_left
   ·replace c8:=zdB c8;subst c8;rw[if_neg (show ¬ (false=true) by decide)]at H;obtain rfl:=zdI H;have aE0:0<=(cC:Int):=zdT zz4;have aDz:cC<(l0.length:Int):=zdT zz4;obtain⟨fC,A101_0,c101_0,aG5,bU,iK,hi101_0⟩:=aSq HR0.out cC aE0 aDz;cases aG5;have HR101_0:=zK_ hi101_0;have HC101_0:=zK_ iK;clear hi101_0 iK;replace aE0:=eq_true aE0;replace aDz:=eq_true aDz;(go_wp2_with (first|(go_at_call 58;(with_reducible refine(aB7.calls k1 _ _ (aDo l0 cC) (-500) 500 false _ ?side1 ?side2 A7.out).mono ?_);(case side1=>repeat(first|exact HR101_0.out|(with_reducible refine Kd.aCr ?_ _)|(with_reducible refine Kd.aCq ?_ _)|(with_reducible refine Kd.aDf ?_)));(case side2=>exact HC101_0.out);rintro e w' ⟨rfl,⟨nd,rfl⟩⟩)));go_ret;exact⟨zz5,by repeat(first|exact aB8.refl _|apply aB8.step)⟩
   subst c8;rw[if_pos rfl]at H;have H':=zK_ H;clear H;have aE0:0<=(cC:Int):=zdT zz4;have aDz:cC<(l0.length:Int):=zdT zz4;obtain⟨fC,A101_0,c101_0,aG5,bU,iK,hi101_0⟩:=aSq HR0.out cC aE0 aDz;cases aG5;have HR101_0:=zK_ hi101_0;have HC101_0:=zK_ iK;clear hi101_0 iK;replace aE0:=eq_true aE0;replace aDz:=eq_true aDz;(go_wp2_with (first|(go_at_call 58;(with_reducible refine(aB7.calls k1 _ _ (aDo l0 cC) (-500) 500 true _ ?side1 ?side2 A7.out).mono ?_);(case side1=>repeat(first|exact HR101_0.out|(with_reducible refine Kd.aCr ?_ _)|(with_reducible refine Kd.aCq ?_ _)|(with_reducible refine Kd.aDf ?_)));(case side2=>exact HC101_0.out);rintro e w' ⟨rfl,⟨nd,rfl⟩⟩)));go_roundg k1;(case measure=>have:=HK1.out;omega);case rel=>exact⟨(wrap64 (cC+1)),zz5,H',⟨aFc⟩,by repeat(first|exact aB8.refl _|apply aB8.step)⟩
mutual
def aAf.l0:Nat->List (List Int)->List Int->Int->Int->Int->List Int->Int->Int->Option (Int)
 | 0,_,_,_,_,_,_,_,_=>none
 | k+1,x0,x1,x2,x7,x8,oZ,xY,oM=>if oM<xY then(if 0<=oM then(if oM<(oZ.length:Int) then(if(Go.bits .and .i64 (shr .i64 x2 oM) 1)=0 then(aAf.l0 k x0 x1 x2 x7 x8 oZ xY (wrap64 (oM+1))) else(if(rd oZ oM)=0 then(aAf.l0 k x0 x1 x2 x7 (wrap64 (-x8)) oZ xY (wrap64 (oM+1))) else(if 1<=(x1.length:Int) then((aAf.f k x0 (x1.drop 1) (Go.bits .andNot .i64 x2 (shl .i64 1 oM))).bind λeG=>(aAf.l0 k x0 x1 x2 (wrap64 (x7+(wrap64 ((wrap64 (x8*(rd oZ oM)))*eG)))) (wrap64 (-x8)) oZ xY (wrap64 (oM+1)))) else(none)))) else(none)) else(none)) else(some x7)
def aAf.f:Nat->List (List Int)->List Int->Int->Option (Int)
 | 0,_,_,_=>none
 | k+1,l0,l1,a2=>if(l1.length:Int)=0 then(some 1) else(if 0<(l1.length:Int) then(if 0<=(rd l1 0) then(if(rd l1 0)<(l0.length:Int) then(aAf.l0 k l0 l1 a2 0 1 (aDo l0 (rd l1 0)) ((aDo l0 (rd l1 0)).length:Int) 0) else(none)) else(none)) else(none))
end
theorem aAf.aBa:∀ k,(∀ y0 y1 y2,LeO (aAf.f k y0 y1 y2) (aAf.f (k+1) y0 y1 y2))/\(∀ y0 y1 y2 y3 y4 y5 y6 y7,LeO (aAf.l0 k y0 y1 y2 y3 y4 y5 y6 y7) (aAf.l0 (k+1) y0 y1 y2 y3 y4 y5 y6 y7))
 | 0=>⟨λ_ _ _ r h=>by simp[aAf.f]at h,λ_ _ _ _ _ _ _ _ r h=>by simp[aAf.l0]at h⟩
 | k+1=>by
  obtain⟨ih0,ih1⟩:=aAf.aBa k
  refine⟨?_,?_⟩
  ·intro y0 y1 y2
   unfold aAf.f
   exact zm1
  ·intro y0 y1 y2 y3 y4 y5 y6 y7
   unfold aAf.l0
   exact zm1
theorem aAf.mono:∀ a0 a1 a2 k,LeO (aAf.f k a0 a1 a2) (aAf.f (k+1) a0 a1 a2):=by
 intro a0 a1 a2 k;obtain⟨ih0,ih1⟩:=aAf.aBa k;exact ih0 a0 a1 a2
def aAf.T9:Bool×List (List Nat×List Nat):=(true,[([],[]),([],[]),([],[]),([1,2],[1,2]),([],[]),([],[]),([5],[5]),([],[]),([],[]),([8],[8]),([7,9],[7,9]),([4,6,10],[4,6,10]),([3,11],[3,11]),([0,12],[0,12]),([13,11,0,1,2,3,4,5,6,7,8,9,10,11,12,13],[0,13])])
def aAf.B9:List Nat:=[0,0,0,6,0,0,32,0,0,256,896,2032,4094,8191,16383]
theorem aAf.bJt:aI2 .any (opsOf Try.f62 9)=aAf.T9:=by kernel_rfl
theorem aAf.bHd:aFh aAf.T9.2 aAf.B9=true:=by kernel_rfl
theorem aAf.calls (k:Nat):∀ (A0:Option Addr) (c0:Nat) (l0:List (List Int)) (A1:Option Addr) (c1:Nat) (l1:List Int) (a2:Int) (r:Int) (w:World) (hr0:Kd.C (Kd.slice 3 (Kd.int .i64)) w A0 l0.length l0) (hc0:l0.length<=c0) (hr1:Kd.C (Kd.int .i64) w A1 l1.length l1) (hc1:l1.length<=c1) (h:aAf.f k l0 l1 a2=some r),
  Calls Try.prog 62 #[.slice A0 l0.length c0,.slice A1 l1.length c1,.int .i64 a2] w λe w'=>e = .returned (.int .i64 r)/\Below w.heap.size w w':=by
 induction k using Nat.strongRecOn with
 | _ k ih =>
 intro A0 c0 l0 A1 c1 l1 a2 r w hr0 hc0 hr1 hc1 h
 cases k with
 | zero=>exact absurd h (by simp[aAf.f])
 | succ k =>
 simp only[aAf.f]at h;have HR0:=zK_ hr0;have HC0:=zK_ hc0;clear hr0 hc0;have HR1:=zK_ hr1;have HC1:=zK_ hc1;clear hr1 hc1;have HB:=zK_ (Below.refl w.heap.size w);have H:(if(l1.length:Int)=0 then(some 1) else(if 0<(l1.length:Int) then(if 0<=(rd l1 0) then(if(rd l1 0)<(l0.length:Int) then(aAf.l0 k l0 l1 a2 0 1 (aDo l0 (rd l1 0)) ((aDo l0 (rd l1 0)).length:Int) 0) else(none)) else(none)) else(none)))=some r:=h;clear h;by_cases c4:(l1.length:Int)=0
 ·rw[if_pos c4]at H;have iI:((l1.length:Int)==0)=true:=beq_iff_eq.mpr c4;have wX:((l1.length:Int) != 0)=false:=bne_eq_false_iff_eq.mpr c4;clear c4;obtain rfl:=zdI H;go_enter Try.func62,Try.ntmps62;go_wp2;go_ret;exact⟨zz9,zz2⟩
 rw[if_neg c4]at H;have iI:((l1.length:Int)==0)=false:=beq_eq_false_iff_ne.mpr c4;have wX:((l1.length:Int) != 0)=true:=bne_iff_ne.mpr c4;(have L1:¬ (l1=[]):=λh_=>c4 (by rw[h_];rfl));by_cases c5:0<(l1.length:Int);rotate_left
 ·rw[if_neg c5]at H;exact absurd H (by simp)
 rw[if_pos c5]at H;have fL:=zdY c5;have qM:decide (0<l1.length)=true:=zdY (by omega);clear c5;by_cases c6:0<=(rd l1 0);rotate_left
 ·rw[if_neg c6]at H;exact absurd H (by simp)
 rw[if_pos c6]at H;have iT:=zdY c6;clear c6;by_cases c7:(rd l1 0)<(l0.length:Int);rotate_left
 ·rw[if_neg c7]at H;exact absurd H (by simp)
 rw[if_pos c7]at H;have jE:=zdY c7;clear c7;have H':=zK_ H;clear H;have aE0:0<=(0:Int):=(by omega);have aDz:0<(l1.length:Int):=zdT zz4;obtain⟨fC,aG5,bU⟩:=Kd.aCz HR1.out 0 aE0 aDz;cases aG5;have bK0:(0<l1.length)=True:=eq_true (by omega);(try rw[show ((0:Int)).toNat=0 from rfl]at bU);(try rw[Addr.add_zero']at bU);replace aE0:=eq_true aE0;replace aDz:=eq_true aDz;have aFe:0<=((rd l1 0):Int):=zdT zz4;have aFd:(rd l1 0)<(l0.length:Int):=zdT zz4;obtain⟨d8,A102_0,c102_0,aJn,cJ,jN,hi102_0⟩:=aSq HR0.out (rd l1 0) aFe aFd;cases aJn;have HR102_0:=zK_ hi102_0;have HC102_0:=zK_ jN;clear hi102_0 jN;replace aFe:=eq_true aFe;replace aFd:=eq_true aFd;go_enter Try.func62,Try.ntmps62;go_wp2;(go_loopg [7,8,21] k (λkq v7 v8 v21 w'=>∃ (dC:Int) (cP:Int) (cR:Int),v7 = .int .i64 dC/\v8 = .int .i64 cP/\v21 = .int .i64 cR/\aA1 (aAf.l0 kq l0 l1 a2 dC cP (aDo l0 (rd l1 0)) ((aDo l0 (rd l1 0)).length:Int) cR=some r)/\aA1 (kq<=k)/\aA1 (Below w.heap.size w w')));case atStart=>exact⟨(0),(1),(0),zz5,zz5,zz5,H',⟨Nat.le_refl _⟩,⟨zz2⟩⟩
 case round =>
  clear H';(try clear c1);(try clear p1);(try clear q1);(try clear hx1);(try clear qi1);(try clear p2);(try clear c4);(try clear iI);(try clear wX);(try clear L1);(try clear c5);(try clear fL);(try clear qM);(try clear c6);(try clear iT);(try clear c7);(try clear jE);(try clear bU);(try clear cJ);(try clear aE0);(try clear aFe);(try clear aDz);(try clear aFd);obtain⟨dC,cP,cR,rfl,rfl,rfl,HA,HK1,HB⟩:=hrel
  cases gk with
  | zero=>exact absurd HA.out (by simp[aAf.l0])
  | succ k1 =>
   have H:=HA.out;clear HA;simp only[aAf.l0]at H;by_cases c8:cR<((aDo l0 (rd l1 0)).length:Int);rotate_left
   ·rw[if_neg c8]at H;have i3:=zdN c8;(try(have j7:=i3;first|rw[jN]at j7|rw[<-jN]at j7));clear c8;obtain rfl:=zdI H;go_wp2;go_ret;exact⟨zz9,zz2⟩
   rw[if_pos c8]at H;have i3:=zdY c8;(try(have j7:=i3;first|rw[jN]at j7|rw[<-jN]at j7));clear c8;by_cases c9:0<=cR;rotate_left
   ·rw[if_neg c9]at H;exact absurd H (by simp)
   rw[if_pos c9]at H;have j6:=zdY c9;clear c9;by_cases c10:cR<((aDo l0 (rd l1 0)).length:Int);rotate_left
   ·rw[if_neg c10]at H;exact absurd H (by simp)
   rw[if_pos c10]at H;have gN:=zdY c10;(try(have oE:=gN;first|rw[jN]at oE|rw[<-jN]at oE));clear c10;have oU:=eq_true (zdT zz4:0<=cR);obtain⟨b5,l7⟩:∃ j_:Int,(shr .i64 a2 cR)=j_:=⟨_,rfl⟩;(replace H:(if(Go.bits .and .i64 (b5) 1)=0 then(aAf.l0 k1 l0 l1 a2 dC cP (aDo l0 (rd l1 0)) ((aDo l0 (rd l1 0)).length:Int) (wrap64 (cR+1))) else(if(rd (aDo l0 (rd l1 0)) cR)=0 then(aAf.l0 k1 l0 l1 a2 dC (wrap64 (-cP)) (aDo l0 (rd l1 0)) ((aDo l0 (rd l1 0)).length:Int) (wrap64 (cR+1))) else(if 1<=(l1.length:Int) then((aAf.f k1 l0 (l1.drop 1) (Go.bits .andNot .i64 a2 (shl .i64 1 cR))).bind λeG=>(aAf.l0 k1 l0 l1 a2 (wrap64 (dC+(wrap64 ((wrap64 (cP*(rd (aDo l0 (rd l1 0)) cR)))*eG)))) (wrap64 (-cP)) (aDo l0 (rd l1 0)) ((aDo l0 (rd l1 0)).length:Int) (wrap64 (cR+1)))) else(none))))=some r:=by first|(rw[l7]at H;exact H)|(simp only[l7]at H ⊢;exact H));have KP:(a2/2^min cR.toNat 64)=b5:=l7;have KN:cR<=64->(a2/2^cR.toNat)=b5:=aIs l7;by_cases c13:(Go.bits .and .i64 (b5) 1)=0
   ·rw[if_pos c13]at H;have jU:((Go.bits .and .i64 (b5) 1)==0)=true:=beq_iff_eq.mpr c13;have qW:((Go.bits .and .i64 (b5) 1) != 0)=false:=bne_eq_false_iff_eq.mpr c13;clear c13;have H':=zK_ H;clear H;have aF6:0<=(cR:Int):=zdT zz4;have aF5:cR<((aDo l0 (rd l1 0)).length:Int):=zdT zz4;obtain⟨bW,aJ1,bJ⟩:=Kd.aCz HR102_0.out cR aF6 aF5;cases aJ1;replace bJ:=(HB.out.cell (World.block_lt_of_cell? w _ bJ)).trans bJ;replace aF6:=eq_true aF6;replace aF5:=eq_true aF5;go_wp2;go_roundg k1;(case measure=>have:=HK1.out;omega);case rel=>exact⟨(dC),(cP),(wrap64 (cR+1)),zz5,zz5,zz5,H',⟨aFc⟩,⟨zz2⟩⟩
   rw[if_neg c13]at H;have jU:((Go.bits .and .i64 (b5) 1)==0)=false:=beq_eq_false_iff_ne.mpr c13;have qW:((Go.bits .and .i64 (b5) 1) != 0)=true:=bne_iff_ne.mpr c13;by_cases c14:(rd (aDo l0 (rd l1 0)) cR)=0
   ·rw[if_pos c14]at H;have jT:((rd (aDo l0 (rd l1 0)) cR)==0)=true:=beq_iff_eq.mpr c14;have D9:((rd (aDo l0 (rd l1 0)) cR) != 0)=false:=bne_eq_false_iff_eq.mpr c14;clear c14;have H':=zK_ H;clear H;have aF6:0<=(cR:Int):=zdT zz4;have aF5:cR<((aDo l0 (rd l1 0)).length:Int):=zdT zz4;obtain⟨bW,aJ1,bJ⟩:=Kd.aCz HR102_0.out cR aF6 aF5;cases aJ1;replace bJ:=(HB.out.cell (World.block_lt_of_cell? w _ bJ)).trans bJ;replace aF6:=eq_true aF6;replace aF5:=eq_true aF5;go_wp2;go_roundg k1;(case measure=>have:=HK1.out;omega);case rel=>exact⟨(dC),(wrap64 (-cP)),(wrap64 (cR+1)),zz5,zz5,zz5,H',⟨aFc⟩,⟨zz2⟩⟩
   rw[if_neg c14]at H;have jT:((rd (aDo l0 (rd l1 0)) cR)==0)=false:=beq_eq_false_iff_ne.mpr c14;have D9:((rd (aDo l0 (rd l1 0)) cR) != 0)=true:=bne_iff_ne.mpr c14;by_cases c15:1<=(l1.length:Int);rotate_left
   ·rw[if_neg c15]at H;exact absurd H (by simp)
   rw[if_pos c15]at H;have mW:=eq_true c15;have PE:decide (1<=(l1.length:Int))=true:=zdY c15;clear c15;have l9:=eq_true (zdT zz4:0<=cR);obtain⟨iS,jO⟩:∃ j_:Int,(shl .i64 1 cR)=j_:=⟨_,rfl⟩;(replace H:((aAf.f k1 l0 (l1.drop 1) (Go.bits .andNot .i64 a2 (iS))).bind λeG=>(aAf.l0 k1 l0 l1 a2 (wrap64 (dC+(wrap64 ((wrap64 (cP*(rd (aDo l0 (rd l1 0)) cR)))*eG)))) (wrap64 (-cP)) (aDo l0 (rd l1 0)) ((aDo l0 (rd l1 0)).length:Int) (wrap64 (cR+1))))=some r:=by first|(rw[jO]at H;exact H)|(simp only[jO]at H ⊢;exact H));have o3:(IntKind.i64.wrap (1*2^min cR.toNat 64))=iS:=jO;have rJ:cR<=64->(IntKind.i64.wrap (1*2^cR.toNat))=iS:=aGb jO;(have KI:(IntKind.i64.wrap (2^min cR.toNat 64))=iS:=by have h_:=o3;rw[Int.one_mul]at h_;exact h_);(have KH:cR<=64->(IntKind.i64.wrap (2^cR.toNat))=iS:=λaQ1=>by have h_:=rJ aQ1;rw[Int.one_mul]at h_;exact h_);have KF:(wrap64 (1*2^min cR.toNat 64))=iS:=(aF0 _).symm.trans o3;(have KG:cR<=64->(wrap64 (1*2^cR.toNat))=iS:=λh_=>(aF0 _).symm.trans (rJ h_));obtain⟨eG,bFq,H⟩:=zO_ H;(try dsimp only at H);have A18:=zK_ bFq;clear bFq;have H':=zK_ H;clear H;have aF6:0<=(cR:Int):=zdT zz4;have aF5:cR<((aDo l0 (rd l1 0)).length:Int):=zdT zz4;obtain⟨bW,aJ1,bJ⟩:=Kd.aCz HR102_0.out cR aF6 aF5;cases aJ1;replace bJ:=(HB.out.cell (World.block_lt_of_cell? w _ bJ)).trans bJ;replace aF6:=eq_true aF6;replace aF5:=eq_true aF5;(try go_wp2);replace HB:=zK_ (aB3 HB.out);obtain⟨bMa,bDz,_,bDy,_⟩:=info_parts info3;obtain⟨A20,bIa,hA20,bId⟩:=aN7 (P:=Try.prog) (Value.int .i64) 0 42 3 .i64 Try.underlying42 bDz bDy (some fC) c1 l1 1 (by omega) (zdT zz4) HC1.out;have bFf:=zK_ (Kd.aMt (h1:=λ_=>rfl) (hA20 _ (Kd.aMh HR1.out)));have bHs:=zK_ bId;clear hA20 bId bDz bDy;refine aFy (n:=15) (S:=λw'=>True) (ds:=[]) (zM 15 0) (by kernel_rfl) rfl rfl trivial (λhHeld=>?_);refine aE7 aAf.bJt aAf.bHd (λHT_ HW_=>?_);generalize wr.drew=w19 at HB bFf hHeld ⊢;refine zQ 0 33 (zM 15 1) ?_
   refine zQ 1 34 (zM 15 3) ?_
   refine zQ 2 35 (zM 15 7) ?_
   refine zQ 3 36 (zM 15 15) ?_
   refine zQ 4 37 (zM 15 31) ?_
   refine zQ 5 38 (zM 15 63) ?_
   refine zQ 6 39 (zM 15 127) ?_
   refine zQ 7 40 (zM 15 255) ?_
   refine zQ 8 41 (zM 15 511) ?_
   refine zQ 9 42 (zM 15 1023) ?_
   refine zQ 10 43 (zM 15 2047) ?_
   refine aLu (i:=11) (N:=some 44) (zM 15 4095) rfl rfl (aEs HT_.out (by kernel_rfl)) (by decide) (λK hK=>?_);refine aGd Try.func62 (by kernel_rfl) rfl #[.slice (some d8) l0.length c0,.slice A20 (l1.drop 1).length (c1-1),.int .i64 (Go.bits .andNot .i64 a2 (iS))] (by rfl) rfl rfl (by(try simp only[List.map_toArray,List.map_cons,List.map_nil]);first|done|(rw[show (l1.drop 1).length=(l1.length-1) from List.length_drop]<;>rfl)|(simp only[jO];rfl)|rfl|(simp only[List.length_drop,List.length_take];rfl)) ?_;(with_reducible refine(ih k1 (by have:=HK1.out;omega) _ _ l0 _ _ (l1.drop 1) (Go.bits .andNot .i64 a2 (iS)) eG _ ?side1 ?side2 ?side3 ?side4 A18.out).mono ?_);(case side1=>exact aW6);(case side2=>exact HC0.out);(case side3=>repeat(first|exact(Kd.aDj bFf.out HB.out)|(with_reducible refine Kd.aCr ?_ _)|(with_reducible refine Kd.aCq ?_ _)|(with_reducible refine Kd.aDf ?_)));(case side4=>exact bHs.out);rintro e w21 ⟨rfl,hb⟩;refine⟨_,rfl,?_⟩;replace HB:=zK_ (aA3 zz2 hb);clear hb;refine hK.out _ _ trivial (λhHeld=>?_);clear hK K;refine aEm (a':=?_) ?_ ?_;rotate_left
   ·show Act.put _ (some 44) _=_;exact zzS
   refine zQ 12 45 (zM 15 8191) ?_
   refine zQ 13 46 (zM 15 16383) ?_
   refine zQ 14 7 (zM 15 32767) ?_
   refine aI3 (aF7 HT_.out (by kernel_rfl)) ?_;(try go_wp2);go_roundg k1;(case measure=>have:=HK1.out;omega);case rel=>exact⟨(wrap64 (dC+(wrap64 ((wrap64 (cP*(rd (aDo l0 (rd l1 0)) cR)))*eG)))),(wrap64 (-cP)),(wrap64 (cR+1)),zz5,zz5,zz5,H',⟨aFc⟩,⟨zz2⟩⟩
def aBv.l0:Nat->Int->List Int->Int->Option (List Int)
 | 0,_,_,_=>none
 | k+1,x0,x3,x4=>if 0<=x4 then(if(shr .i64 x0 x4)>0 then(if(Go.bits .and .i64 (shr .i64 x0 x4) 1)=1 then(if x3.length<17592186044416 then(aBv.l0 k x0 (x3++[x4]) (wrap64 (x4+1))) else(none)) else(aBv.l0 k x0 x3 (wrap64 (x4+1)))) else(some x3)) else(none)
def aBv.f (k:Nat) (a0:Int):Option (List Int):=aBv.l0 k a0 ([]:List Int) 0
theorem aBv.aBa:∀ k,(∀ y0 y1 y2,LeO (aBv.l0 k y0 y1 y2) (aBv.l0 (k+1) y0 y1 y2))
 | 0=>λ_ _ _ r h=>by simp[aBv.l0]at h
 | k+1=>by
  have ih0:=aBv.aBa k
  ·intro y0 y1 y2
   unfold aBv.l0
   exact zm0
theorem aBv.mono:∀ a0 k,LeO (aBv.f k a0) (aBv.f (k+1) a0):=by
 intro a0 k;have ih0:=aBv.aBa k;unfold aBv.f;exact zm0
theorem aBv.calls (k:Nat) (a0:Int) (r:List Int) (w:World) (h:aBv.f k a0=some r) :
  Calls Try.prog 63 #[.int .i64 a0] w λe w'=>∃ v0_:Value,e = .returned (v0_)/\Kd.R (Kd.int .i64) 3 w' w.heap.size (λ_=>True) v0_ r/\Below w.heap.size w w':=by
 have HB:=zK_ (Below.refl w.heap.size w);have H:(aBv.l0 k a0 ([]:List Int) 0)=some r:=h;clear h;have H':=zK_ H;clear H;go_enter Try.func63,Try.ntmps63;go_wp2;(go_loopg [3,4] k (λkq v3 v4 w'=>∃ (dJ:List Int) (bO:Int),v4 = .int .i64 bO/\aA1 (aBv.l0 kq a0 dJ bO=some r)/\aA1 (kq<=k)/\aA1 (Kd.R (Kd.int .i64) 3 w' w.heap.size (λ_=>True) v3 dJ)/\aA1 (Below w.heap.size w w')));case atStart=>exact⟨(([]:List Int)),(0),zz5,H',⟨Nat.le_refl _⟩,⟨aW2⟩,⟨zz2⟩⟩
 case round =>
  clear H';obtain⟨dJ,bO,rfl,HA,HK1,bV,HB⟩:=hrel
  cases gk with
  | zero=>exact absurd HA.out (by simp[aBv.l0])
  | succ k1 =>
   have H:=HA.out;clear HA;simp only[aBv.l0]at H;by_cases c2:0<=bO;rotate_left
   ·rw[if_neg c2]at H;exact absurd H (by simp)
   rw[if_pos c2]at H;have mH:=eq_true c2;have rN:decide (0<=bO)=true:=zdY c2;clear c2;obtain⟨tB,tO⟩:∃ j_:Int,(shr .i64 a0 bO)=j_:=⟨_,rfl⟩;(replace H:(if(tB)>0 then(if(Go.bits .and .i64 (tB) 1)=1 then(if dJ.length<17592186044416 then(aBv.l0 k1 a0 (dJ++[bO]) (wrap64 (bO+1))) else(none)) else(aBv.l0 k1 a0 dJ (wrap64 (bO+1)))) else(some dJ))=some r:=by first|(rw[tO]at H;exact H)|(simp only[tO]at H ⊢;exact H));have OX:(a0/2^min bO.toNat 64)=tB:=tO;have OW:bO<=64->(a0/2^bO.toNat)=tB:=aIs tO;by_cases c4:(tB)>0;rotate_left
   ·rw[if_neg c4]at H;have iI:decide (0<(tB))=false:=zdN c4;clear c4;obtain rfl:=zdI H;go_wp2;go_ret;exact⟨_,by first|rfl|(simp[aDd,aDc]<;>rfl)|(simp only[<-tO];first|rfl|(simp[aDd,aDc]<;>rfl))|(simp[*,aDd,aDc]<;>rfl),aK9,zz2⟩
   rw[if_pos c4]at H;have iI:decide (0<(tB))=true:=zdY c4;clear c4;have fL:=eq_true (zdT zz4:0<=bO);by_cases c7:(Go.bits .and .i64 (tB) 1)=1;rotate_left
   ·rw[if_neg c7]at H;have jE:((Go.bits .and .i64 (tB) 1)==1)=false:=beq_eq_false_iff_ne.mpr c7;have DX:((Go.bits .and .i64 (tB) 1) != 1)=true:=bne_iff_ne.mpr c7;have H':=zK_ H;clear H;go_wp2;go_roundg k1;(case measure=>have:=HK1.out;omega);case rel=>exact⟨(dJ),(wrap64 (bO+1)),zz5,H',⟨aFc⟩,⟨aK9⟩,⟨zz2⟩⟩
   rw[if_pos c7]at H;have jE:((Go.bits .and .i64 (tB) 1)==1)=true:=beq_iff_eq.mpr c7;have DX:((Go.bits .and .i64 (tB) 1) != 1)=false:=bne_eq_false_iff_eq.mpr c7;clear c7;by_cases c8:dJ.length<17592186044416;rotate_left
   ·rw[if_neg c8]at H;exact absurd H (by simp)
   rw[if_pos c8]at H;have L3:=zK_ c8;clear c8;obtain⟨u0,hy_⟩:∃ y_:List Int,y_=(dJ++[bO]):=⟨_,rfl⟩;(replace H:(aBv.l0 k1 a0 u0 (wrap64 (bO+1)))=some r:=zzY);have uL:=zK_ hy_;clear hy_;have H':=zK_ H;clear H;(go_wp2_with (first|((with_reducible refine aBk (b:=.append) (xs:=#[.tmp 16,.tmp 18]) rfl ?_);at_builtin;refine Kd.aD3 (Kd.int .i64) (w0:=w) w.heap.size rfl (.tmp 16) (.tmp 18) 42 3 (.int .i64 0) 8 rfl Try.underlying42 info3 rfl (by decide) (by omega) u3 dJ bO [.int .i64 bO] (λ_=>True) (λ_=>False) rfl rfl ?aP (λ_ hk=>hk.elim) ?aF ?aO ?aB ?aS ?aL ?_;(case aP=>exact rfl);(case aB=>exact zz2);(case aF=>exact(λ_ _=>trivial));(case aO=>exact aK9);(case aS=>exact(aAj zz2));(case aL=>have:=L3.out;omega);intro bGs w9 ho hb hg hat;rw[<-uL.out]at ho;have n_:=zA2 hb ho;clear HB bV;obtain⟨HB,m6⟩:=n_;clear ho hb hg hat)));go_roundg k1;(case measure=>have:=HK1.out;omega);case rel=>exact⟨(u0),(wrap64 (bO+1)),zz5,H',⟨aFc⟩,⟨by(with_reducible repeat(first|apply Kd.aAu|apply Kd.aAt|apply Kd.aB5));exact m6.out⟩,⟨zz2⟩⟩
def aBr.f (k:Nat) (l0:List (List Int)):Option (Int):=(aBm.f k l0).bind λbP=>(if bP=true then((aBv.f k (wrap64 ((shl .i64 1 (l0.length:Int))-1))).bind λaX=>((aAf.f k l0 aX (wrap64 ((shl .i64 1 (l0.length:Int))-1))).bind λeG=>(some eG))) else(some 0))
theorem aBr.mono:∀ a0 k,LeO (aBr.f k a0) (aBr.f (k+1) a0):=by
 intro a0 k;unfold aBr.f;repeat' first|(with_reducible apply aBm.mono)|(with_reducible apply aBv.mono)|(with_reducible apply aAf.mono)|(with_reducible exact LeO.refl _)|(with_reducible exact LeO.none _)|(with_reducible refine LeO.ite ?_ ?_)|(with_reducible refine LeO.bind ?_ (λ_=>?_))|apply aBm.mono|apply aBv.mono|apply aAf.mono|exact LeO.none _|refine LeO.ite ?_ ?_|refine LeO.bind ?_ (λ_=>?_)
def aBr.T3:Bool×List (List Nat×List Nat):=(true,[([],[]),([],[]),([1],[1]),([2],[2]),([3],[3]),([4],[4]),([],[]),([6],[6]),([7],[7]),([8],[8]),([0,5,9,5],[0,5,9]),([10,10,0,1,2,3,4,5,6,7,8,9,10],[10])])
def aBr.B3:List Nat:=[0,0,2,6,14,30,0,64,192,448,1023,2047]
theorem aBr.bD5:aI2 .any (opsOf Try.f23 3)=aBr.T3:=by kernel_rfl
theorem aBr.aV8:aFh aBr.T3.2 aBr.B3=true:=by kernel_rfl
theorem aBr.calls (k:Nat) (A0:Option Addr) (c0:Nat) (l0:List (List Int)) (r:Int) (w:World) (hr0:Kd.C (Kd.slice 3 (Kd.int .i64)) w A0 l0.length l0) (hc0:l0.length<=c0) (h:aBr.f k l0=some r) :
  Calls Try.prog 23 #[.slice A0 l0.length c0] w λe w'=>e = .returned (.int .i64 r)/\Below w.heap.size w w':=by
 have HR0:=zK_ hr0;have HC0:=zK_ hc0;clear hr0 hc0;have HB:=zK_ (Below.refl w.heap.size w);have H:((aBm.f k l0).bind λbP=>(if bP=true then((aBv.f k (wrap64 ((shl .i64 1 (l0.length:Int))-1))).bind λaX=>((aAf.f k l0 aX (wrap64 ((shl .i64 1 (l0.length:Int))-1))).bind λeG=>(some eG))) else(some 0)))=some r:=h;clear h;obtain⟨bP,A20,H⟩:=zO_ H;(try dsimp only at H);have A2:=zK_ A20;clear A20;by_cases c3:bP=true;rotate_left
 ·replace c3:=zdB c3;subst c3;rw[if_neg (show ¬ (false=true) by decide)]at H;obtain rfl:=zdI H;go_enter Try.func23,Try.ntmps23;(go_wp2_with (first|((with_reducible refine aAa (f:=61) rfl ?_);refine aBg (some 4) rfl rfl Try.func61 (by kernel_rfl) rfl #[.slice A0 l0.length c0] rfl zz3 ?_;(with_reducible refine(aBm.calls k _ _ l0 false _ ?side1 ?side2 A2.out).mono ?_);(case side1=>exact aY9);(case side2=>exact HC0.out);rintro e w' ⟨rfl,⟨nd,rfl⟩⟩;refine⟨_,rfl,?_⟩)));go_ret;exact⟨zz9,zz2⟩
 subst c3;rw[if_pos rfl]at H;obtain⟨rC,qD⟩:∃ j_:Int,(shl .i64 1 (l0.length:Int))=j_:=⟨_,rfl⟩;(replace H:((aBv.f k (wrap64 ((rC)-1))).bind λaX=>((aAf.f k l0 aX (wrap64 ((rC)-1))).bind λeG=>(some eG)))=some r:=by first|(rw[qD]at H;exact H)|(simp only[qD]at H ⊢;exact H));(try rw[qD]at A2);have tN:(IntKind.i64.wrap (1*2^min (l0.length:Int).toNat 64))=rC:=qD;have tM:(l0.length:Int)<=64->(IntKind.i64.wrap (1*2^(l0.length:Int).toNat))=rC:=aGb qD;have AM:(IntKind.i64.wrap (1*2^min l0.length 64))=rC:=tN;have AK:(l0.length:Int)<=64->(IntKind.i64.wrap (1*2^l0.length))=rC:=tM;(have OV:(IntKind.i64.wrap (2^min l0.length 64))=rC:=by have h_:=AM;rw[Int.one_mul]at h_;exact h_);(have OU:(l0.length:Int)<=64->(IntKind.i64.wrap (2^l0.length))=rC:=λaQ1=>by have h_:=AK aQ1;rw[Int.one_mul]at h_;exact h_);(have OT:(IntKind.i64.wrap (2^min (l0.length:Int).toNat 64))=rC:=by have h_:=tN;rw[Int.one_mul]at h_;exact h_);(have OS:(l0.length:Int)<=64->(IntKind.i64.wrap (2^(l0.length:Int).toNat))=rC:=λaQ1=>by have h_:=tM aQ1;rw[Int.one_mul]at h_;exact h_);have OQ:(wrap64 (1*2^min (l0.length:Int).toNat 64))=rC:=(aF0 _).symm.trans tN;(have OR:(l0.length:Int)<=64->(wrap64 (1*2^(l0.length:Int).toNat))=rC:=λh_=>(aF0 _).symm.trans (tM h_));obtain⟨aX,A50,H⟩:=zO_ H;(try dsimp only at H);have A5:=zK_ A50;clear A50;obtain⟨eG,A70,H⟩:=zO_ H;(try dsimp only at H);have A7:=zK_ A70;clear A70;obtain rfl:=zdI H;go_enter Try.func23,Try.ntmps23;(try go_wp2_with (first|((with_reducible refine aAa (f:=61) rfl ?_);refine aBg (some 4) rfl rfl Try.func61 (by kernel_rfl) rfl #[.slice A0 l0.length c0] rfl zz3 ?_;(with_reducible refine(aBm.calls k _ _ l0 true _ ?side1 ?side2 A2.out).mono ?_);(case side1=>exact aY9);(case side2=>exact HC0.out);rintro e w' ⟨rfl,⟨nd,rfl⟩⟩;refine⟨_,rfl,?_⟩)));replace HB:=zK_ (aB3 (aAv HB.out nd));refine aFy (n:=12) (S:=λw'=>True) (ds:=[]) (zM 12 0) (by kernel_rfl) rfl rfl trivial (λhHeld=>?_);refine aE7 aBr.bD5 aBr.aV8 (λHT_ HW_=>?_);generalize (w.drewN nd).drew=w8 at HB hHeld ⊢;refine zQ 0 6 (zM 12 1) ?_
 refine zQ 1 7 (zM 12 3) ?_
 refine zQ 2 8 (zM 12 7) ?_
 refine zQ 3 9 (zM 12 15) ?_
 refine zQ 4 10 (zM 12 31) ?_
 refine zQ 6 12 (zM 12 95) ?_
 refine zQ 7 13 (zM 12 223) ?_
 refine zQ 8 14 (zM 12 479) ?_
 refine zQ 9 15 (zM 12 991) ?_
 refine aLu (i:=5) (N:=some 11) (zM 12 1023) rfl rfl (aEs HT_.out (by kernel_rfl)) (by decide) (λK hK=>?_);refine aGd Try.func63 (by kernel_rfl) rfl #[.int .i64 (wrap64 ((rC)-1))] (by rfl) rfl rfl (by(try simp only[List.map_toArray,List.map_cons,List.map_nil]);first|done|(simp only[qD];rfl)|rfl|(simp only[List.length_drop,List.length_take];rfl)) ?_;(with_reducible refine(aBv.calls k (wrap64 ((rC)-1)) aX _ A5.out).mono ?_);rintro e w9 ⟨aWc,rfl,ho0,hb⟩;refine⟨_,rfl,?_⟩;have n_:=zA2 (Kd.aCm ho0 (aAj zz2)) (aA3 zz2 hb);clear HB;obtain⟨cQ,HB⟩:=n_;clear ho0 hb;obtain⟨bLy,bIp,uA⟩:=Kd.aBe cQ.out;(first|subst uA|(injection uA with f1_ f2_ f3_;have f4_:=f1_.symm;have f5_:=f3_.symm;clear f1_ f2_ f3_;subst f4_;subst f5_));refine hK.out _ _ trivial (λhHeld=>?_);clear hK K;refine aEm (a':=?_) ?_ ?_;rotate_left
 ·show Act.put _ (some 11) _=_;exact zzS
 refine aLu (i:=10) (N:=some 16) (zM 12 2047) rfl rfl (aEs HT_.out (by kernel_rfl)) (by decide) (λK hK=>?_);refine aGd Try.func62 (by kernel_rfl) rfl #[.slice A0 l0.length c0,.slice bLy aX.length bIp,.int .i64 (wrap64 ((rC)-1))] (by rfl) rfl rfl (by(try simp only[List.map_toArray,List.map_cons,List.map_nil]);first|done|(simp only[qD];rfl)|rfl|(simp only[List.length_drop,List.length_take];rfl)) ?_;(with_reducible refine(aAf.calls k _ _ l0 _ _ aX (wrap64 ((rC)-1)) eG _ ?side1 ?side2 ?side3 ?side4 A7.out).mono ?_);(case side1=>exact aW6);(case side2=>exact HC0.out);(case side3=>exact aZf);(case side4=>exact(Kd.aAc cQ.out).2.1);rintro e w11 ⟨rfl,hb⟩;refine⟨_,rfl,?_⟩;have n_:=zA2 (Kd.aBp aMv hb) (aA3 zz2 hb);clear cQ HB;obtain⟨cQ,HB⟩:=n_;clear hb;refine hK.out _ _ trivial (λhHeld=>?_);clear hK K;refine aEm (a':=?_) ?_ ?_;rotate_left
 ·show Act.put _ (some 16) _=_;exact zzS
 refine zQ 11 2 (zM 12 4095) ?_
 refine aI3 (aF7 HT_.out (by kernel_rfl)) ?_;(try go_wp2);go_ret;exact⟨by first|rfl|(simp[aDd,aDc]<;>rfl)|(simp only[<-qD];first|rfl|(simp[aDd,aDc]<;>rfl))|(simp[*,aDd,aDc]<;>rfl),zz2⟩
mutual
def aAn.l0:Nat->List (List Int)->Int->Int->List (S73)->Option ((List (List Int)))
 | 0,_,_,_,_=>none
 | k+1,x3,x4,aU,aM=>if x4<aU then(if 0<=aU then(if(aU:Int).toNat<=35184372088832 then((some (List.replicate (aU:Int).toNat 0:List Int)).bind λn9=>(aAn.l1 k x3 x4 n9 (n9.length:Int) 0 aU aM)) else(none)) else(none)) else(some x3)
def aAn.l1:Nat->List (List Int)->Int->List Int->Int->Int->Int->List (S73)->Option ((List (List Int)))
 | 0,_,_,_,_,_,_,_=>none
 | k+1,x3,x4,x5,xY,oM,aU,aM=>if oM<xY then((aAb.f k aU aM x4 oM).bind λb3=>(if 0<=oM then(if oM<(x5.length:Int) then(aAn.l1 k x3 x4 (x5.set (oM:Int).toNat (wrap64 (-b3))) xY (wrap64 (oM+1)) aU aM) else(none)) else(none))) else((aAy.f k aU aM x4).bind λfE=>(if 0<=x4 then(if x4<(x5.length:Int) then(if x3.length<5864062014805 then(aAn.l0 k (x3++[(x5.set (x4:Int).toNat fE)]) (wrap64 (x4+1)) aU aM) else(none)) else(none)) else(none)))
end
def aAn.f (k:Nat) (aE:Int) (aC:List (S73)):Option ((List (List Int))):=(aC6.f aE aC).bind λaX=>(if aX=true then(aAn.l0 k ([]:List (List Int)) 0 aE aC) else(some ([]:List (List Int))))
theorem aAn.aBa:∀ k,(∀ y0 y1 y2 y3,LeO (aAn.l0 k y0 y1 y2 y3) (aAn.l0 (k+1) y0 y1 y2 y3))/\(∀ y0 y1 y2 y3 y4 y5 y6,LeO (aAn.l1 k y0 y1 y2 y3 y4 y5 y6) (aAn.l1 (k+1) y0 y1 y2 y3 y4 y5 y6))
 | 0=>⟨λ_ _ _ _ r h=>by simp[aAn.l0]at h,λ_ _ _ _ _ _ _ r h=>by simp[aAn.l1]at h⟩
 | k+1=>by
  obtain⟨ih0,ih1⟩:=aAn.aBa k
  refine⟨?_,?_⟩
  ·intro y0 y1 y2 y3
   unfold aAn.l0
   exact bGk
  ·intro y0 y1 y2 y3 y4 y5 y6
   unfold aAn.l1
   exact bGk
theorem aAn.mono:∀ a0 a1 k,LeO (aAn.f k a0 a1) (aAn.f (k+1) a0 a1):=by
 intro a0 a1 k;obtain⟨ih0,ih1⟩:=aAn.aBa k;unfold aAn.f;exact bGk
theorem aAn.calls (k:Nat) (aE:Int) (aQ:Option Addr) (aG:Nat) (aC:List (S73)) (r:List (List Int)) (w:World) (hr0_1:Kd.C k73 w aQ aC.length aC) (hc0_1:aC.length<=aG) (h:aAn.f k aE aC=some r) :
  Calls Try.prog 64 #[.agg #[.int .i64 aE,.slice aQ aC.length aG]] w λe w'=>∃ v0_:Value,e = .returned (v0_)/\Kd.S (Kd.slice 3 (Kd.int .i64)) 42 w' w.heap.size (λ_=>True) v0_ r/\Below w.heap.size w w':=by
 have aIh:=Try.underlying25;have b7:=zK_ hr0_1;have bY:=zK_ hc0_1;clear hr0_1 hc0_1;have HB:=zK_ (Below.refl w.heap.size w);have H:((aC6.f aE aC).bind λaX=>(if aX=true then(aAn.l0 k ([]:List (List Int)) 0 aE aC) else(some ([]:List (List Int)))))=some r:=h;clear h;obtain⟨aX,A20,H⟩:=zO_ H;(try dsimp only at H);have A2:=zK_ A20;clear A20;by_cases c3:aX=true;rotate_left
 ·replace c3:=zdB c3;subst c3;rw[if_neg (show ¬ (false=true) by decide)]at H;obtain rfl:=zdI H;go_enter Try.func64,Try.ntmps64;(go_wp2_with (first|((with_reducible refine aAw (N:=1) rfl ?_);refine aAq ?hg (N:=1) ?hd (cs:=#[.int .i64 aE,.slice aQ aC.length aG]) (t:=25) ?hr ?_;(case hd=>rfl);(case hg=>rfl);(case hr=>exact aDq);intro aD hg w34 hbox hb;have n_:=zA4 (aA3 zz2 hb) hbox (aE1:w.heap.size<=aD) (aE1:w.heap.size<=aD);clear HB;obtain⟨HB,aA,aDt,aDe⟩:=n_;clear hb hbox hg;have g8:=aCg aA;have g7:=aCf aA;have g6:=aA0 aA.out 0;have g5:=aA0 aA.out 1)|((with_reducible refine aAa (f:=41) rfl ?_);refine aBg (some 8) rfl rfl Try.func41 (by kernel_rfl) rfl #[.agg #[.int .i64 aE,.slice aQ aC.length aG]] rfl zz3 ?_;(with_reducible refine(aC6.calls aE _ _ aC false _ ?side1 ?side2 A2.out).mono ?_);(case side1=>exact zz7);(case side2=>exact bY.out);rintro e w36 ⟨rfl,hb⟩;refine⟨_,rfl,?_⟩;have n_:=zA2 (aA4 (g:=aD) (o:=.cells #[.int .i64 aE,.slice aQ aC.length aG] 25 (0,0)) zz0 hb) (aA3 zz1 hb);clear aA HB;obtain⟨aA,HB⟩:=n_;clear hb)));go_ret;exact⟨_,zz9,by first|exact Kd.aNm _ _ _ _ _|exact Kd.bFc _ _ _ _ _|exact Kd.bF0 _ _ _ _ _|exact Kd.bFb _ _ _ _ _|exact Kd.aSr _ _ _ _ _,zz1⟩
 subst c3;rw[if_pos rfl]at H;have H':=zK_ H;clear H;go_enter Try.func64,Try.ntmps64;(go_wp2_with (first|((with_reducible refine aAw (N:=1) rfl ?_);refine aAq ?hg (N:=1) ?hd (cs:=#[.int .i64 aE,.slice aQ aC.length aG]) (t:=25) ?hr ?_;(case hd=>rfl);(case hg=>rfl);(case hr=>exact aDq);intro aD hg w4 hbox hb;have n_:=zA4 (aA3 zz2 hb) hbox (aE1:w.heap.size<=aD) (aE1:w.heap.size<=aD);clear HB;obtain⟨HB,aA,aDt,aDe⟩:=n_;clear hb hbox hg;have mG:=aCg aA;have mF:=aCf aA;have m9:=aA0 aA.out 0;have mE:=aA0 aA.out 1)|((with_reducible refine aAa (f:=41) rfl ?_);refine aBg (some 8) rfl rfl Try.func41 (by kernel_rfl) rfl #[.agg #[.int .i64 aE,.slice aQ aC.length aG]] rfl zz3 ?_;(with_reducible refine(aC6.calls aE _ _ aC true _ ?side1 ?side2 A2.out).mono ?_);(case side1=>exact zz7);(case side2=>exact bY.out);rintro e w6 ⟨rfl,hb⟩;refine⟨_,rfl,?_⟩;have n_:=zA2 (aA4 (g:=aD) (o:=.cells #[.int .i64 aE,.slice aQ aC.length aG] 25 (0,0)) zz0 hb) (aA3 zz1 hb);clear aA HB;obtain⟨aA,HB⟩:=n_;clear hb)));(go_loopg [3,4] k (λkq v3 v4 w'=>∃ (dJ:List (List Int)) (bO:Int),v4 = .int .i64 bO/\aA1 (aAn.l0 kq dJ bO aE aC=some r)/\aA1 (kq<=k)/\aA1 (Kd.S (Kd.slice 3 (Kd.int .i64)) 42 w' w.heap.size (λ_=>True) v3 dJ)/\aA1 (w'.heap[aD]? = some (.cells #[.int .i64 aE,(.slice aQ aC.length aG)] 25 (0,0)))/\aA1 (Below w.heap.size w w')));case atStart=>exact⟨(([]:List (List Int))),(0),zz5,H',⟨Nat.le_refl _⟩,⟨by first|exact Kd.aNm _ _ _ _ _|exact Kd.bFc _ _ _ _ _|exact Kd.bF0 _ _ _ _ _|exact Kd.bFb _ _ _ _ _|exact Kd.aSr _ _ _ _ _⟩,⟨zz0⟩,⟨zz1⟩⟩
 case round =>
  clear H';(try clear p2);(try clear c3);(try clear c4);(try clear c6);(try clear mG);(try clear mF);(try clear m9);(try clear mE);obtain⟨dJ,bO,rfl,HA,HK1,bV,aA,HB⟩:=hrel
  cases gk with
  | zero=>exact absurd HA.out (by simp[aAn.l0])
  | succ k1 =>
   have H:=HA.out;clear HA;simp only[aAn.l0]at H;by_cases c7:bO<aE;rotate_left
   ·rw[if_neg c7]at H;have jE:=zdN c7;clear c7;obtain rfl:=zdI H;have wP:=aCg aA;have wO:=aCf aA;have vU:=aA0 aA.out 0;have vT:=aA0 aA.out 1;go_wp2;go_ret;exact⟨_,zz9,by(with_reducible repeat(first|apply Kd.aFv|apply Kd.aFu|apply Kd.aH7));exact bV.out,zz1⟩
   rw[if_pos c7]at H;have jE:=zdY c7;clear c7;by_cases c8:0<=aE;rotate_left
   ·rw[if_neg c8]at H;exact absurd H (by simp)
   rw[if_pos c8]at H;have i3:=eq_true c8;have yM:decide (0<=aE)=true:=zdY c8;clear c8;by_cases c9:(aE:Int).toNat<=35184372088832;rotate_left
   ·rw[if_neg c9]at H;exact absurd H (by simp)
   rw[if_pos c9]at H;have j6:=eq_true c9;have uB:decide ((aE:Int).toNat<=35184372088832)=true:=zdY c9;clear c9;obtain⟨n9,hy_⟩:∃ y_:List Int,y_=(List.replicate (aE:Int).toNat 0):=⟨_,rfl⟩;(replace H:(aAn.l1 k1 dJ bO n9 (n9.length:Int) 0 aE aC)=some r:=zzY);have xR:=zK_ hy_;clear hy_;have H':=zK_ H;clear H;have eE:=aCg aA;have eD:=aCf aA;have eB:=aA0 aA.out 0;have d9:=aA0 aA.out 1;(go_wp2_with (first|((with_reducible refine aAw (N:=18) rfl ?_);refine Kd.aRn (Kd.int .i64) _ 3 rfl (N:=18) rfl 42 _ _ rfl aE rfl rfl Try.underlying42 (.int .i64 0) 8 info3 rfl (by decide) (by omega) 0 (ok:=λ_=>True) (okp:=λ_=>True) rfl (λ_ hk=>hk) trivial (zdT zz4) (Nat.le_trans (Nat.mul_le_mul_right _ (zdT zz4:aE.toNat<=35184372088832)) (by omega)) (Below.refl _ _) (Nat.le_refl _) ?_;intro bGr w11 aSf hb hg_ aGn;clear hg_ aGn;(first|rw[<-xR.out]at aSf|(simp only[Int.reduceToNat]at aSf;rw[<-xR.out]at aSf));have n_:=zA4 (Kd.aY1 (by(with_reducible repeat(first|apply Kd.aFv|apply Kd.aFu|apply Kd.aH7));exact bV.out) (Kd.aCw aSf) hb) (Kd.aCm aSf (aAj zz1)) (aA4 (g:=aD) (o:=.cells #[.int .i64 aE,.slice aQ aC.length aG] 25 (0,0)) zz0 hb) (aA3 zz1 hb);clear bV aA HB;obtain⟨bV,gT,aA,HB⟩:=n_;clear hb aSf;obtain⟨aFx,aEq,qL⟩:=Kd.aBe gT.out;subst qL)));(go_loopg [21] k1 (λkq v21 w'=>∃ (d4:List Int) (iP:Int),v21 = .int .i64 iP/\aA1 (aAn.l1 kq dJ bO d4 (n9.length:Int) iP aE aC=some r)/\aA1 (kq<=k1)/\aA1 (Kd.S (Kd.slice 3 (Kd.int .i64)) 42 w' w.heap.size (λk_=>some k_≠((.slice aFx n9.length aEq):Value).ownBlock) u3 dJ)/\aA1 (Kd.R (Kd.int .i64) 3 w' w.heap.size (λ_=>True) (.slice aFx n9.length aEq) d4)/\aA1 (w'.heap[aD]? = some (.cells #[.int .i64 aE,(.slice aQ aC.length aG)] 25 (0,0)))/\aA1 (Below w.heap.size w w')));case atStart=>exact⟨(n9),(0),zz5,H',⟨Nat.le_refl _⟩,⟨by(with_reducible repeat(first|apply Kd.aFv|apply Kd.aFu|apply Kd.aH7));exact Kd.aFf bV.out (λ_ hk=>hk.2)⟩,⟨by(with_reducible repeat(first|apply Kd.aAu|apply Kd.aAt|apply Kd.aB5));exact gT.out⟩,⟨zz0⟩,⟨zz1⟩⟩
   case round =>
    clear H';(try clear p2);(try clear c3);(try clear c4);(try clear c6);(try clear c7);(try clear jE);(try clear c8);(try clear i3);(try clear yM);(try clear c9);(try clear j6);(try clear uB);(try clear eE);(try clear eD);(try clear mG);(try clear mF);(try clear eB);(try clear d9);(try clear m9);(try clear mE);(try clear p2);obtain⟨d4,iP,rfl,HA,HK2,bV,dF,aA,HB⟩:=hrel;have g4:=(Kd.aAc dF.out).1;rw[g4]at dF;(try simp only[g4]);(try simp only[g4]at aA);(try simp only[g4]at bV)
    cases gk with
    | zero=>exact absurd HA.out (by simp[aAn.l1])
    | succ k2 =>
     have H:=HA.out;clear HA;simp only[aAn.l1]at H;by_cases c14:iP<(n9.length:Int)
     ·rw[if_pos c14]at H;have jT:=zdY c14;(try(have lA:=jT;first|rw[g4]at lA|rw[<-g4]at lA));clear c14;obtain⟨b3,aZ5,H⟩:=zO_ H;(try dsimp only at H);have A15:=zK_ aZ5;clear aZ5;by_cases c16:0<=iP;rotate_left
      ·rw[if_neg c16]at H;exact absurd H (by simp)
      rw[if_pos c16]at H;have l9:=zdY c16;clear c16;by_cases c17:iP<(d4.length:Int);rotate_left
      ·rw[if_neg c17]at H;exact absurd H (by simp)
      rw[if_pos c17]at H;have l8:=zdY c17;(try(have qV:=l8;first|rw[g4]at qV|rw[<-g4]at qV));clear c17;obtain⟨oW,hy_⟩:∃ y_:List Int,y_=(d4.set (iP:Int).toNat (wrap64 (-b3))):=⟨_,rfl⟩;(replace H:(aAn.l1 k2 dJ bO oW (n9.length:Int) (wrap64 (iP+1)) aE aC)=some r:=zzY);have q6:=zK_ hy_;clear hy_;have H':=zK_ H;clear H;have jS:=aCg aA;have jR:=aCf aA;have jQ:=aA0 aA.out 0;have jP:=aA0 aA.out 1;(go_wp2_with (first|((with_reducible refine aAa (f:=99) rfl ?_);refine aBg (some 29) rfl rfl Try.func99 (by kernel_rfl) rfl #[.agg #[.int .i64 aE,.slice aQ aC.length aG],.int .i64 bO,.int .i64 iP] rfl zz3 ?_;(with_reducible refine(aAb.calls k2 aE _ _ aC bO iP b3 _ ?side1 ?side2 A15.out).mono ?_);(case side1=>exact zz7);(case side2=>exact bY.out);rintro e w20 ⟨rfl,hb⟩;refine⟨_,rfl,?_⟩;have n_:=zA4 (Kd.aFj (by(with_reducible repeat(first|apply Kd.aFv|apply Kd.aFu|apply Kd.aH7));exact bV.out) hb) (Kd.aBp aPh hb) (aA4 (g:=aD) (o:=.cells #[.int .i64 aE,.slice aQ aC.length aG] 25 (0,0)) zz0 hb) (aA3 zz1 hb);clear bV dF aA HB;obtain⟨bV,dF,aA,HB⟩:=n_;clear hb;have p18:0<=(iP:Int):=zdT zz4;have q18:(iP:Int)<((d4.length:Int):Int):=zdT zz4;obtain⟨bEd,aXt,wW,DH,bL0,bN8,bIx⟩:=Kd.aHs dF.out (by omega);(first|cases wW|(injection wW with ea_ en_ ec_;(first|subst ea_|(injection ea_ with ea_;subst ea_));subst ec_;clear en_));have MB:=zK_ DH;have P2:=zK_ bIx;clear DH bL0 bIx;obtain⟨G8,K4⟩:=Kd.aEb 0 dF.out (iP:Int) p18 q18;replace p18:=eq_true p18;replace q18:=eq_true q18;obtain⟨bKh,bK9⟩:=Kd.aEb 0 dF.out (iP:Int) (zdT zz4) (zdT zz4);have yX:=Kd.aIb dF.out (iP:Int) (wrap64 (-b3)))|((with_reducible refine aEa (t:=3) (p:=31) rfl ?_);refine aE5 (t:=3) (p:=31) (v:=?vo_w22) (w1:=(w20.setCell ⟨bEd,(iP:Int).toNat,none⟩ (.int .i64 (wrap64 (-b3))))) ?hg ?ho ?hn ?hr ?_;(case ho=>rfl);(case hg=>rfl);(case hn=>rfl);(case hr=>exact aDq);intro w22 hw;have hg:w20.grownBy w22 (some bEd):=(by rw[hw];exact yX.2);have hp_:Kd.R (Kd.int .i64) 3 w22 w.heap.size (λ_=>True) (.slice (some ⟨bEd,0,none⟩) d4.length aEq) oW:=(by rw[hw,q6.out];exact yX.1);clear yX;have n_:=zA4 (Kd.aVj (v:=(.slice (some ⟨bEd,0,none⟩) d4.length aEq)) (v1:=(.slice (some ⟨bEd,0,none⟩) d4.length aEq)) (ok:=(λ_=>True)) (by(with_reducible repeat(first|apply Kd.aFv|apply Kd.aFu|apply Kd.aH7));exact Kd.aFf bV.out (λ_ hk=>⟨trivial,hk⟩)) hg (.inl rfl)) hp_ (aAx (g:=aD) (o:=.cells #[.int .i64 aE,.slice aQ aC.length aG] 25 (0,0)) zz0 hg (Kd.aEd dF.out aA.out (by decide))) (by rw[hw];exact aAi (HB.out) MB.out:Below w.heap.size w w22);clear bV dF aA HB;obtain⟨bV,dF,aA,HB⟩:=n_;clear hg hw hp_)));(try simp only[<-g4]);go_roundg k2;(case measure=>have:=HK1.out;have:=HK2.out;omega);case rel=>exact⟨(oW),(wrap64 (iP+1)),zz5,H',⟨by have:=HK1.out;have:=HK2.out;omega⟩,⟨by(try simp only[g4]);(with_reducible repeat(first|apply Kd.aFv|apply Kd.aFu|apply Kd.aH7));exact Kd.aFf bV.out (λ_ hk=>hk.2)⟩,⟨by(try simp only[g4]);(with_reducible repeat(first|apply Kd.aAu|apply Kd.aAt|apply Kd.aB5));exact dF.out⟩,⟨by(try simp only[g4]);(with_reducible repeat(first|refine aA6 ?_ _|refine aA9 ?_|refine aA7 ?_ _));exact aA.out⟩,⟨zz1⟩⟩
     rw[if_neg c14]at H;have jT:=zdN c14;(try(have lA:=jT;first|rw[g4]at lA|rw[<-g4]at lA));clear c14;obtain⟨fE,bJm,H⟩:=zO_ H;(try dsimp only at H);have A23:=zK_ bJm;clear bJm;by_cases c24:0<=bO;rotate_left
     ·rw[if_neg c24]at H;exact absurd H (by simp)
     rw[if_pos c24]at H;have uF:=zdY c24;clear c24;by_cases c25:bO<(d4.length:Int);rotate_left
     ·rw[if_neg c25]at H;exact absurd H (by simp)
     rw[if_pos c25]at H;have D6:=zdY c25;(try(have qQ:=D6;first|rw[g4]at qQ|rw[<-g4]at qQ));clear c25;obtain⟨cX,hy_⟩:∃ y_:List Int,y_=(d4.set (bO:Int).toNat fE):=⟨_,rfl⟩;(replace H:(if dJ.length<5864062014805 then(aAn.l0 k2 (dJ++[cX]) (wrap64 (bO+1)) aE aC) else(none))=some r:=zzY);have jV:=zK_ hy_;clear hy_;by_cases c27:dJ.length<5864062014805;rotate_left
     ·rw[if_neg c27]at H;exact absurd H (by simp)
     rw[if_pos c27]at H;have EQ:=zK_ c27;clear c27;obtain⟨nH,hy_⟩:∃ y_:List (List Int),y_=(dJ++[cX]):=⟨_,rfl⟩;(replace H:(aAn.l0 k2 nH (wrap64 (bO+1)) aE aC)=some r:=zzY);have q5:=zK_ hy_;clear hy_;have H':=zK_ H;clear H;have sL:=aCg aA;have sK:=aCf aA;have sD:=aA0 aA.out 0;have sC:=aA0 aA.out 1;(go_wp2_with (first|((with_reducible refine aAa (f:=100) rfl ?_);refine aBg (some 37) rfl rfl Try.func100 (by kernel_rfl) rfl #[.agg #[.int .i64 aE,.slice aQ aC.length aG],.int .i64 bO] rfl zz3 ?_;(with_reducible refine(aAy.calls k2 aE _ _ aC bO fE _ ?side1 ?side2 A23.out).mono ?_);(case side1=>exact zz7);(case side2=>exact bY.out);rintro e w29 ⟨rfl,hb⟩;refine⟨_,rfl,?_⟩;have n_:=zA4 (Kd.aFj (by(with_reducible repeat(first|apply Kd.aFv|apply Kd.aFu|apply Kd.aH7));exact bV.out) hb) (Kd.aBp aPh hb) (aA4 (g:=aD) (o:=.cells #[.int .i64 aE,.slice aQ aC.length aG] 25 (0,0)) zz0 hb) (aA3 zz1 hb);clear bV dF aA HB;obtain⟨bV,dF,aA,HB⟩:=n_;clear hb;have p26:0<=(bO:Int):=zdT zz4;have q26:(bO:Int)<((d4.length:Int):Int):=zdT zz4;obtain⟨bAw,bN3,DM,DF,bKy,bN6,bIv⟩:=Kd.aHs dF.out (by omega);(first|cases DM|(injection DM with ea_ en_ ec_;(first|subst ea_|(injection ea_ with ea_;subst ea_));subst ec_;clear en_));have L9:=zK_ DF;have P0:=zK_ bIv;clear DF bKy bIv;obtain⟨G7,K0⟩:=Kd.aEb 0 dF.out (bO:Int) p26 q26;replace p26:=eq_true p26;replace q26:=eq_true q26;obtain⟨bKd,bK5⟩:=Kd.aEb 0 dF.out (bO:Int) (zdT zz4) (zdT zz4);have yT:=Kd.aIb dF.out (bO:Int) fE)|((with_reducible refine aEa (t:=3) (p:=38) rfl ?_);refine aE5 (t:=3) (p:=38) (v:=?vo_w31) (w1:=(w29.setCell ⟨bAw,(bO:Int).toNat,none⟩ (.int .i64 fE))) ?hg ?ho ?hn ?hr ?_;(case ho=>rfl);(case hg=>rfl);(case hn=>rfl);(case hr=>exact aDq);intro w31 hw;have hg:w29.grownBy w31 (some bAw):=(by rw[hw];exact yT.2);have hp_:Kd.R (Kd.int .i64) 3 w31 w.heap.size (λ_=>True) (.slice (some ⟨bAw,0,none⟩) d4.length aEq) cX:=(by rw[hw,jV.out];exact yT.1);clear yT;have n_:=zA4 (Kd.aVj (v:=(.slice (some ⟨bAw,0,none⟩) d4.length aEq)) (v1:=(.slice (some ⟨bAw,0,none⟩) d4.length aEq)) (ok:=(λ_=>True)) (by(with_reducible repeat(first|apply Kd.aFv|apply Kd.aFu|apply Kd.aH7));exact Kd.aFf bV.out (λ_ hk=>⟨trivial,hk⟩)) hg (.inl rfl)) hp_ (aAx (g:=aD) (o:=.cells #[.int .i64 aE,.slice aQ aC.length aG] 25 (0,0)) zz0 hg (Kd.aEd dF.out aA.out (by decide))) (by rw[hw];exact aAi (HB.out) L9.out:Below w.heap.size w w31);clear bV dF aA HB;obtain⟨bV,dF,aA,HB⟩:=n_;clear hg hw hp_)|((with_reducible refine aBk (b:=.append) (xs:=#[.tmp 39,.tmp 41]) rfl ?_);at_builtin;refine Kd.aKo (Kd.slice 3 (Kd.int .i64)) (w0:=w) w.heap.size rfl (.tmp 39) (.tmp 41) 28 42 (.slice none 0 0) 24 rfl Try.underlying28 aOn rfl (by decide) (by omega) u3 dJ cX [.slice (some ⟨bAw,0,none⟩) d4.length aEq] (λ_=>True) (λk_=>some k_=(.slice (some ⟨bAw,0,none⟩) d4.length aEq:Value).ownBlock) rfl rfl ?aP (λk_ hk_=>((Kd.aBh (ok':=λk_=>((λ_=>True)) k_/\some k_≠(u3:Value).ownBlock) (Kd.aRo (dF.out) (Kd.aVe bV.out) (by decide)) (λk_ hk=>⟨trivial,hk.2⟩))).1 k_ hk_.symm) ?aF ?aO ?aB ?aS ?aL ?_;(case aP=>exact Kd.aVl (Kd.aBh (Kd.aNo rfl (Kd.aBh (ok':=λk_=>((λ_=>True)) k_/\some k_≠(u3:Value).ownBlock) (Kd.aRo (dF.out) (Kd.aVe bV.out) (by decide)) (λk_ hk=>⟨trivial,hk.2⟩))) (λ_ h_=>h_)));(case aB=>exact zz1);(case aF=>exact(λ_ _=>trivial));(case aO=>exact(by(with_reducible repeat(first|apply Kd.aFv|apply Kd.aFu|apply Kd.aH7));exact Kd.aFf bV.out (λk_ hk=>⟨trivial,λe_=>hk.2 e_⟩)));(case aS=>exact(aAj zz1));(case aL=>have:=EQ.out;omega);intro bGq w32 ho hb hg hat;rw[<-q5.out]at ho;have n_:=zA3 (aAx (g:=aD) (o:=.cells #[.int .i64 aE,.slice aQ aC.length aG] 25 (0,0)) zz0 hg (Kd.bLh bV.out aA.out (by decide))) hb ho;clear aA HB bV dF;obtain⟨aA,HB,nG⟩:=n_;clear ho hb hg hat)));(try simp only[<-g4]);go_roundg k2;(case measure=>have:=HK1.out;have:=HK2.out;omega);case rel=>exact⟨(nH),(wrap64 (bO+1)),zz5,H',⟨by have:=HK1.out;have:=HK2.out;omega⟩,⟨by(try simp only[g4]);(with_reducible repeat(first|apply Kd.aFv|apply Kd.aFu|apply Kd.aH7));exact nG.out⟩,⟨by(try simp only[g4]);(with_reducible repeat(first|refine aA6 ?_ _|refine aA9 ?_|refine aA7 ?_ _));exact aA.out⟩,⟨zz1⟩⟩
end P
namespace Cf
open P
theorem aKz {P:Program} {ops:Array Oper} {o:Oper} {a:Act} {w:World} {K:Act->World->Prop} {Q:Exit->Act->World->Prop} {E:Prop}
  (hg:o.guard=none) (s x:Operand) (t:TypeId) (hop:o.op=Op.call { callee:=Callee.builtin Builtin.append,args:=#[s,x],argTypes:=#[t,t]})
  (base:Nat) (e:TypeId) (i:TypeInfo) (size:Nat) (h1:P.underlying t=some (.slice e)) (h2:P.info? e=some i) (h4:i.size=size)
  (g n cap:Nat) (xs:List Value) (hs:a.eval s = .slice (some ⟨g,0,none⟩) n cap) (hown:w.ownsRow base e size (.slice (some ⟨g,0,none⟩) n cap) n xs)
  (ad:Addr) (m c:Nat) (news:List Value) (hx:a.eval x = .slice (some ad) m c) (hn:news.length=m*size) (hc:∀ j u,news[j]? = some u->w.cell? (ad.add j)=some u) (h1c:∀ u∈news,u.oneCell'=true)
  (hroom:n+m<=cap)
  (hK:∀ w',w'.ownsRow base e size (.slice (some ⟨g,0,none⟩) (n+m) cap) (n+m) (xs++news)->w.grownBy w' (some g)->K (a.put o.dst (.slice (some ⟨g,0,none⟩) (n+m) cap)) w') :
  if Region.wanted o (yielded ops a.tmps)=true then Oper.wp P o a w K Q else E:=by
 have hw:Region.wanted o (yielded ops a.tmps)=true:=by simp[Region.wanted,hg]
 rw[if_pos hw]
 obtain⟨w',hrun,r1,r2⟩:=run_append_fits (P:=P) w base t o.type e i size h1 h2 h4 g n cap xs hown ad m c news hn hc h1c hroom
 unfold Oper.wp
 simp[execOp,hop,resolve,invoke,builtin,hs,hx,hrun,Result.andThen]
 exact hK w' r1 r2
theorem aQu {base e size n:Nat} {cap g:Nat} {xs:List Value}:∀ (vs:List Value) (o:Nat) (w:World),w.ownsRow base e size (.slice (some ⟨g,0,none⟩) n cap) n xs->n*size<=o->o+vs.length<=cap*size ->
  (w.setCells g o vs).ownsRow base e size (.slice (some ⟨g,0,none⟩) n cap) n xs/\w.grownBy (w.setCells g o vs) (some g)
 | [],o,w,h,_,_=>⟨h,World.grownBy.refl _ _⟩
 | v::vs,o,w,h,h1,h2=>by
  have h0:(w.setCell ⟨g,o,none⟩ v).ownsRow base e size (.slice (some ⟨g,0,none⟩) n cap) n xs:=by
   obtain⟨hl,hr⟩:=h
   refine⟨hl,?_⟩
   rcases hr with ⟨hv,_⟩|⟨g',cap',cur,hv,hb,hh,hn,hm,hs,ht⟩
   ·cases hv
   ·injection hv with ha _ hc
    injection ha with ha
    injection ha with ha
    subst ha
    subst hc
    refine .inr ⟨g,cap,cur.setIfInBounds o v,rfl,hb,aCy hh o v rfl,hn,hm,by rw[Array.size_setIfInBounds];exact hs,?_⟩
    rw[<-ht,Array.toList_setIfInBounds,List.take_set_of_le h1]
  have hg:w.grownBy (w.setCell ⟨g,o,none⟩ v) (some g):=⟨rfl,rfl,rfl,by simp[World.setCell],λk _ hk=>Below.heap_setCell w ⟨g,o,none⟩ v k (λe=>hk (by rw[e]))⟩
  obtain⟨h3,h4⟩:=aQu vs (o+1) _ h0 (by omega) (by rw[List.length_cons]at h2;omega)
  refine⟨h3,⟨h4.os.trans hg.os,h4.tape.trans hg.tape,h4.output.trans hg.output,Nat.le_trans hg.size h4.size,λk hk hne=>?_⟩⟩
  rw[show w.setCells g o (v::vs)=(w.setCell ⟨g,o,none⟩ v).setCells g (o+1) vs from rfl,h4.block k (Nat.lt_of_lt_of_le hk hg.size) hne]
  exact hg.block k hk hne
end Cf
namespace P
def aDb.f (l0:List (Int)) (a1 a2:Int):Option (List (Int)):=if 0<=a1 then(if a1<(l0.length:Int) then(if a2=a1+1 then some (l0.eraseIdx a1.toNat) else none) else none) else none
theorem aDb.clear_ {P:Program} (W:World) {g o c:Nat} {t e ty:TypeId} {cur:Array Value} (ht:P.underlying t=some (.slice e)) (hv:∀ w,(zeroValue e).run P w = .ok (.int .i64 0) w) (hb:W.heap[g]? = some (.cells cur e (0,0))) (hl:o+1<=cur.size) :
  (Builtin.clear_ #[t] ty #[.slice (some ⟨g,o,none⟩) 1 c]).run P W = .ok (.tuple #[]) (W.setCells g o [.int .i64 0]):=by
 have hst:=run_storeCells_cells (P:=P) g o [.int .i64 0] 0 W (λj hj=>by
  rw[aAs hb];(simp at hj ⊢);omega) (λj hj=>aA0 hb _) (by intro v hv';simp at hv';rw[hv'];rfl)
 simp only[Nat.add_zero]at hst;(have hz:(Builtin.zeroCells (.int .i64 0:Value).cells 1).toList=[.int .i64 0]:=by simp[Builtin.zeroCells,Value.cells,List.range_succ]);simp[Builtin.clear_,run_underlying ht,hv,hz,hst]
theorem aDb.calls (P0_:Nat->Prop) (aI8:Value) (l0:List (Int)) (a1 a2:Int) (r:List (Int)) (w0 w:World) (hB:Below w0.heap.size w0 w) (ho0:Kd.R (Kd.int .i64) 3 w w0.heap.size P0_ aI8 l0) (h:aDb.f l0 a1 a2=some r) :
  Calls Try.prog 65 #[aI8,.int .i64 a1,.int .i64 a2] w λe w'=>∃ v0_:Value,e = .returned (v0_)/\Kd.R (Kd.int .i64) 3 w' w0.heap.size (λk_=>(P0_ k_∨w.heap.size<=k_)) v0_ r/\Below w0.heap.size w0 w'/\Kept w w' (λk_=>P0_ k_):=by
 unfold aDb.f at h;split at h
 ·split at h
  ·split at h
   ·rename_i h0 h1 h2;subst h2;obtain rfl:=zdI h;obtain⟨i,rfl⟩:=Int.eq_ofNat_of_zero_le h0;(have hi:i<l0.length:=by omega);clear h h0 h1;obtain⟨hk0,inner,ho,hr⟩:=ho0;have hil:inner.length=l0.length*1:=ho.1;rcases ho.2 with ⟨hv,hn⟩|⟨g,cap,cur,rfl,hbg,hh,hnc,hcm,hcs,htk⟩
    ·omega
    ·obtain⟨i0,hi0,hz0,hz1,hz2⟩:=info_parts info3;(have hcells:∀ j u,inner[j]? = some u->w.cell? ⟨g,j,none⟩=some u:=λj u hu=>by have:=ho.cells (g:=g) rfl j u hu;rwa[add_plain]at this);have hb0:w0.heap.size<=w.heap.size:=hB.size;change cur.size=cap*1 at hcs;change List.take (l0.length*1) cur.toList=inner at htk;have bI9:P0_ g:=hk0 g rfl;have hoi:w.drew.ownsRow w0.heap.size 3 1 (.slice (some ⟨g,0,none⟩) i cap) i (inner.take (i*1)):=⟨by rw[List.length_take];omega,.inr ⟨g,cap,cur,rfl,hbg,hh,by omega,hcm,hcs,by rw[<-htk,List.take_take,Nat.min_eq_left (by omega)]⟩⟩;obtain⟨d,hd⟩:∃ d,l0.length=i+1+d:=⟨l0.length-(i+1),by omega⟩;rw[hd]at hil hnc htk ⊢;obtain⟨news,hnews⟩:∃ news,news=inner.drop ((i+1)*1):=⟨_,rfl⟩;have hnl:news.length=d*1:=by rw[hnews,List.length_drop,hil];omega
     have hn1:∀ u∈news,u.oneCell'=true:=λu hu=>by
      rw[hnews]at hu;exact(Kd.aWo hr (by decide) (λp c hp=>Kd.aI4 (Kd.int .i64) (Kd.aEz (Kd.int .i64) hp))) u (List.mem_of_mem_drop hu)
     obtain⟨A,hA,hsrc⟩:∃ A:Addr,(if cap=i+1 then some (⟨g,0,none⟩:Addr) else some ⟨g,i+1,none⟩)=some A/\Hid (∀ t u,news[t]? = some u->w.drew.cell? (A.add t)=some u):=by
      by_cases hq:cap=i+1
      ·refine⟨⟨g,0,none⟩,by simp[hq],λt u hu=>?_⟩;(have h0:news.length=0:=by omega);rw[List.length_eq_zero_iff.1 h0]at hu;simp at hu
      refine⟨⟨g,i+1,none⟩,by simp[hq],λt u hu=>?_⟩;rw[hnews,List.getElem?_drop]at hu;rw[Addr.add_lit];exact hcells _ _ (by simpa using hu)
     have HD:=zK_ hd;clear hi;have HO:=zK_ hoi;have HNL:=zK_ hnl;have HN1:=zK_ hn1;have HR:=zK_ hr;have HNW:=zK_ hnews;have HIL:=zK_ hil;have HBW:=zK_ hB;have HC:=zK_ hcs;have HG:=zK_ (⟨hbg,bI9,hcm⟩:w0.heap.size<=g/\P0_ g/\cap<=maxLen);(have hic:i<=cap:=by omega);(have hjc:i+1<=cap:=by omega);(have hcz:cap<=9223372036854775807:=by have:=hcm;unfold maxLen at this;omega);clear hnl hn1 hr hnews hil hB hcs hbg bI9 hcm hh htk ho hcells hk0 hoi hd
     have bLe:∀ {W1:World},W1.ownsRow w0.heap.size 3 1 (.slice (some ⟨g,0,none⟩) (i+d) cap) (i+d) (inner.take (i*1)++news)->∀ ty,(Builtin.clear_ #[42] ty #[.slice (some ⟨g,i+d,none⟩) (i+1+d-(i+d)) (cap-(i+d))]).run Try.prog W1 = .ok (.tuple #[]) (W1.setCells g (i+d) [.int .i64 0]):=fun {W1} hO ty=>by
      rcases hO.2 with ⟨hv,_⟩|⟨g',cap',cur',hv,_,hh',_,_,hs',_⟩
      ·cases hv
      ·injection hv with ha _ hc';injection ha with ha;injection ha with ha;subst ha;subst hc';rw[show i+1+d-(i+d)=1 by omega];exact aDb.clear_ W1 Try.underlying42 Try.zeroValue3 hh' (by rw[hs'];omega)
     (have bMn:(0:Int)<=(i:Int)+1:=by omega);(have bMm:(i:Int)+1<=(i:Int)+1+(d:Int):=by omega);go_enter Try.func65,Try.ntmps65;(go_wp2_with fail);(go_region_law (refine Cf.aKz rfl (.tmp 22) (.tmp 25) 42 rfl w0.heap.size 3 i0 1 Try.underlying42 hi0 hz1 g i cap (inner.take (i*1)) (by simp[Act.eval,Act.put]) HO.out A d (cap-(i+1)) news (by simp[Act.eval,Act.put]) HNL.out hsrc.out HN1.out (by omega) ?_;intro W1 hO1 hG1;have HO1:=zK_ hO1;have HG1:=zK_ hG1;have hcl:=bLe hO1;obtain⟨W2,hW2⟩:∃ W2,W2=W1.setCells g (i+d) [.int .i64 0]:=⟨_,rfl⟩;rw[<-hW2]at hcl;have HW2:=zK_ hW2;clear hO1 hG1 hW2));go_wp2;refine bodyPost_ret (v:=.slice (some ⟨g,0,none⟩) (i+d) cap) (by simp[results,Try.results65,go_sem]) rfl ?_;have hO2:=Cf.aQu [.int .i64 0] (i+d) W1 HO1.out (by omega) (by have:=HC.out;simp;omega);rw[<-HW2.out]at hO2;have hgr:w.grownBy W2 (some g):=⟨hO2.2.os.trans HG1.out.os,hO2.2.tape.trans HG1.out.tape,hO2.2.output.trans HG1.out.output,Nat.le_trans HG1.out.size hO2.2.size,λk hk hne=>(hO2.2.block k (Nat.lt_of_lt_of_le hk HG1.out.size) hne).trans (HG1.out.block k hk hne)⟩;(have hel:l0.eraseIdx ((i:Int)).toNat=l0.take i++l0.drop (i+1):=by rw[Int.toNat_natCast,List.eraseIdx_eq_take_drop_succ]);refine⟨_,rfl,⟨λk hk=>?_,?_⟩,⟨hgr.os.trans HBW.out.os,hgr.tape.trans HBW.out.tape,hgr.output.trans HBW.out.output,Nat.le_trans HBW.out.size hgr.size,λk hk=>(hgr.block k (Nat.lt_of_lt_of_le hk HBW.out.size) (by have:=HG.out.1;simp;omega)).trans (HBW.out.block k hk)⟩,⟨hgr.size,λk hk hn=>hgr.block k hk (λe=>hn (by injection e with e;rw[e];exact HG.out.2.1))⟩⟩
     ·(simp[Value.ownBlock]at hk);subst hk;exact .inl HG.out.2.1
     ·(have hlen:(l0.eraseIdx ((i:Int)).toNat).length=i+d:=by rw[hel,List.length_append,List.length_take,List.length_drop,HD.out];omega);refine⟨inner.take (i*1)++news,by rw[hlen];exact hO2.1,?_⟩;rw[hel,HNW.out];have ht:=Kd.aTt (m:=i) HR.out (by rw[HD.out];omega);have hd2:=Kd.aTv (m:=i+1) HR.out;(refine(Kd.aL2 ht hd2).aPe λp c hp=>?_);refine Kd.aDu (Kd.int .i64) (λk hk=>?_) (Kd.aZ2 hp (w1:=W2) λk hk hlt=>hgr.block k hlt (λe=>hk.2 (by rw[e];rfl)));exact⟨.inl hk.1,λe=>hk.2 (by rw[e];rfl)⟩
   ·cases h
  ·cases h
 ·cases h
end P
namespace Cf
structure bHj (e1 e:Nat) (w:World) (base:Nat) (okj:Nat->Nat->Prop) (v:Value) (rs:List Value) (L:List (List Int)):Prop where
 len:rs.length=L.length
 own:w.ownsRow base e1 1 v L.length rs
 row:∀ j x u,L[j]? = some x->rs[j]? = some u->Kd.R (Kd.int .i64) e w base (okj j) u x
 apart:∀ i j k,okj i k->okj j k->i=j
 off:∀ j k,okj j k->some k≠v.ownBlock
theorem aTs {e1 e:Nat} {w:World} {base:Nat} {ok:Nat->Prop} {v:Value} {L:List (List Int)} (h:Kd.S (Kd.slice e (Kd.int .i64)) e1 w base ok v L) :
  ∃ okj rs,bHj e1 e w base okj v rs L/\(∀ k,v.ownBlock=some k->ok k)/\∀ j k,okj j k->ok k:=by
 obtain⟨f,h0,inner,ho,hr⟩:=h
 rw[List.length_zipIdx]at ho
 have hl:inner.length=L.length:=by have:=ho.1;simpa[Kd.tag,Kd.slice]using this
 refine⟨λj k=>(ok k/\some k≠v.ownBlock)/\f k=j,inner,⟨hl,ho,λj x u hx hu=>?_,λi j k hi hj=>hi.2.symm.trans hj.2,λj k hk=>hk.1.2⟩,h0,λj k hk=>hk.1.1⟩
 have h1:=hr.2 j (x,j) (by rw[List.getElem?_zipIdx,hx];simp)
 obtain⟨v',hv',hR⟩:=h1
 have hs:(Kd.tag f (Kd.slice e (Kd.int .i64))).sz=1:=rfl
 rw[hs,Nat.mul_one]at hv'
 have:inner[j]? = some v':=by
  have:=congrArg (λl=>l[0]?) hv'
  simpa[List.getElem?_take,List.getElem?_drop]using this
 rw[hu]at this
 obtain rfl:=zdI this
 exact hR
def aIe (q:Nat) (L:List (List Int)):Nat->List (List Int)
 | 0=>[]
 | i+1=>if i=q then aIe q L i else aIe q L i++[(L.getD i []).eraseIdx q]
theorem aOm (q:Nat) (L:List (List Int)):∀ i,(aIe q L i).length<=i
 | 0=>Nat.le_refl _
 | i+1=>by
  have:=aOm q L i
  unfold aIe
  split
  ·omega
  ·simp;omega
def bCc (q:Int) (L:List (List Int)):Option (List (List Int)):=if 0<=q/\q<=1000000/\L.length<=1000000/\∀ r∈L,q<(r.length:Int) then some (aIe q.toNat L L.length) else none
end Cf
namespace P
def aC3.f (k:Nat) (aE:Int) (aC:List S73) (a1:Int):Option (List (List Int)):=(aDl.f aE aC a1).bind λt=>if t=true then(aAn.f k aE aC).bind λL=>Cf.bCc a1 L else some []
theorem aC3.mono:∀ a0 a1 a2 k,LeO (aC3.f k a0 a1 a2) (aC3.f (k+1) a0 a1 a2):=by
 intro a0 a1 a2 k;unfold aC3.f;exact LeO.bind (LeO.refl _) λt=>LeO.ite (LeO.bind (aAn.mono _ _ k) λ_=>LeO.refl _) (LeO.refl _)
theorem aC3.calls (k:Nat) (aE:Int) (aQ:Option Addr) (aG:Nat) (aC:List S73) (a1:Int) (r:List (List Int)) (w:World) (hr0_1:Kd.C k73 w aQ aC.length aC) (hc0_1:aC.length<=aG) (h:aC3.f k aE aC a1=some r) :
  Calls Try.prog 24 #[.agg #[.int .i64 aE,.slice aQ aC.length aG],.int .i64 a1] w λe w'=>∃ v0_:Value,e = .returned (v0_)/\Kd.S (Kd.slice 3 (Kd.int .i64)) 42 w' w.heap.size (λ_=>True) v0_ r/\Below w.heap.size w w':=by
 have bMd:=Try.underlying25;have HR:=zK_ hr0_1;have HC:=zK_ hc0_1;clear hr0_1 hc0_1;have H:((aDl.f aE aC a1).bind λt=>if t=true then(aAn.f k aE aC).bind λL=>Cf.bCc a1 L else some [])=some r:=h;clear h;obtain⟨t,hv,H⟩:=zO_ H;have HV:=zK_ hv;clear hv;have HB:=zK_ (aB6 (Below.refl w.heap.size w) (.cells #[.int .i64 aE,.slice aQ aC.length aG] 25));have BK:=zK_ (heap_alloc_new w (.cells #[.int .i64 aE,.slice aQ aC.length aG] 25))
 cases t with
 | false =>
  obtain rfl:=zdI H;clear H;go_enter Try.func24,Try.ntmps24;(go_wp2_with fail);refine(aDl.calls _ _ _ aC _ false _ (Kd.aDj HR.out HB.out) HC.out HV.out).mono ?_;rintro e w1 ⟨rfl,hb⟩;have HB1:=zK_ (aA3 HB.out hb);clear hb;go_wp2;go_ret;exact⟨_,rfl,Kd.aNm _ _ _ _ _,HB1.out⟩
 | true =>
  rw[if_pos rfl]at H;obtain⟨L,hL,H⟩:=zO_ H;have HL:=zK_ hL;clear hL;unfold Cf.bCc at H;split at H
  ·rename_i hq;obtain rfl:=zdI H;clear H;obtain⟨hq0,hq1,hq2,hq3⟩:=hq;obtain⟨q,rfl⟩:=Int.eq_ofNat_of_zero_le hq0;rw[Int.toNat_natCast];have HQ:=zK_ (show q<=1000000/\L.length<=1000000/\∀ r∈L,q<r.length from ⟨by omega,hq2,λr hr=>by have:=hq3 r hr;omega⟩);clear hq0 hq1 hq2 hq3;go_enter Try.func24,Try.ntmps24;(go_wp2_with fail);refine(aDl.calls _ _ _ aC _ true _ (Kd.aDj HR.out HB.out) HC.out HV.out).mono ?_;rintro e w1 ⟨rfl,hb⟩;have HB1:=zK_ (aA3 HB.out hb);have zB:=zK_ (aA4 BK.out hb);clear hb;have hz0:w1.cell? ⟨w.heap.size,0,none⟩=some (.int .i64 aE):=(aAs zB.out 0).trans rfl;have hz1:w1.cell? ⟨w.heap.size,1,none⟩=some (.slice aQ aC.length aG):=(aAs zB.out 1).trans rfl;(go_wp2_with fail);refine(aAn.calls k _ _ _ aC L _ (Kd.aDj HR.out HB1.out) HC.out HL.out).mono ?_;rintro e w2 ⟨vL,rfl,hS,hb⟩;have HB2:=zK_ (aA3 HB1.out hb);obtain⟨okj,rs,hO,_,hok⟩:=Cf.aTs (Kd.aHq hS);obtain⟨AL,cL,eL,hcL,_⟩:=Kd.bBq hS;have HO:=zK_ hO;have HSZ:=zK_ (show ∀ j k,okj j k->k<w2.heap.size from λj k h=>(hok j k h).2.2.1);have HW1:=zK_ (aAj HB1.out);have bLk:=zK_ (show ∀ j x u,L[j]? = some x->rs[j]? = some u->Kd.R (Kd.int .i64) 3 w2 w.heap.size (okj j) u x from λj x u hx hu=>Kd.aCm (hO.row j x u hx hu) (aAj HB1.out));have HOL:=zK_ (show ∀ k,vL.ownBlock=some k->k<w2.heap.size from Kd.bHi hS);subst eL;have hLl:L.length<=cL:=hcL;clear hS hb hO hok hcL hz0 hz1;go_wp2;(go_loopw [5,15] (λv5 v15 wr=>∃ i:Nat,v15 = .int .i64 (i:Int)/\aA1 (i<=L.length/\w2.heap.size<=wr.heap.size)/\aA1 (Below w.heap.size w wr)/\aA1 (∀ k,((Value.slice AL L.length cL).ownBlock=some k∨∃ j,i<=j/\okj j k)->wr.heap[k]? = w2.heap[k]?)/\aA1 (Kd.S (Kd.slice 3 (Kd.int .i64)) 42 wr w.heap.size (λk=>(∃ j,j<i/\okj j k)∨w2.heap.size<=k) v5 (Cf.aIe q L i))) (λ_ v _=>L.length-(intOf v).toNat));case atStart=>exact⟨0,rfl,⟨Nat.zero_le _,Nat.le_refl _⟩,HB2,⟨λ_ _=>rfl⟩,⟨Kd.aNm _ _ _ _ _⟩⟩
   case round =>
    obtain⟨i,rfl,HI,HBr,HM,HS⟩:=hrel;by_cases hlt:i<L.length;rotate_left
    ·have c0:decide ((i:Int)<(L.length:Int))=false:=zdN (by omega);(have hi:i=L.length:=by have:=HI.out;omega);subst hi;clear hlt;go_wp2;go_ret;exact⟨_,rfl,Kd.aFf HS.out (λ_ _=>trivial),HBr.out⟩
    have c0:decide ((i:Int)<(L.length:Int))=true:=zdY (by omega);(have hil:i<rs.length:=by rw[HO.out.len];exact hlt);obtain⟨x,hxi⟩:∃ x,L[i]? = some x:=⟨_,zdH hlt⟩;obtain⟨u,hui⟩:∃ u,rs[i]? = some u:=⟨_,zdH hil⟩;have hR2:=bLk.out i _ _ hxi hui;have hown:=HO.out.own;obtain⟨gL,cap,hgL,hgb,hgc⟩:=hown.form (by omega);injection hgL with hA hn hc;subst hA;(have hcell2:w2.cell? ⟨gL,i,none⟩=some u:=by have:=hown.cells (g:=gL) rfl i _ hui;rwa[add_plain]at this);have hsame:wr.heap[gL]? = w2.heap[gL]?:=HM.out gL (.inl rfl);have hcell:wr.cell? ⟨gL,i,none⟩=some u:=(World.cell?_of_block (a:=⟨gL,i,none⟩) hsame).trans hcell2;(have hRr:=Kd.aMs hR2 (w1:=wr) λk hk=>HM.out k (.inr ⟨i,Nat.le_refl _,hk⟩));obtain⟨Ai,ci,ei⟩:=Kd.aBe hRr;rw[ei]at hcell hRr;have HRr:=zK_ hRr;(have p1:(0:Int)<=(i:Int):=by omega);(have p2:(i:Int)<(L.length:Int):=by omega);(have hib:(i:Int)<=1000000:=by have:=HQ.out.2.1;omega);(have hq0:(0:Int)<=(q:Int):=by omega);(have hqb:(q:Int)<=1000000:=by have:=HQ.out.1;omega);have HLT:=zK_ hlt;have HXI:=zK_ hxi;have HGL:=zK_ (HOL.out gL rfl);clear hR2 hown hgb hgc hsame hcell2 hRr hxi hui hlt hil ei hn hc;by_cases hq:i=q
    ·(have c1:((i:Int)==(q:Int))=true:=by simp[hq]);(have c2:((i:Int) != (q:Int))=false:=by simp[hq]);have HQI:=zK_ hq;clear hq;go_wp2;go_roundw
     case rel =>
      refine⟨i+1,by go_num,⟨by have:=HLT.out;omega,HI.out.2⟩,HBr,⟨λk hk=>HM.out k (hk.imp_right λ⟨j,hj,h⟩=>⟨j,by omega,h⟩)⟩,⟨?_⟩⟩;have e:Cf.aIe q L (i+1)=Cf.aIe q L i:=if_pos HQI.out;rw[e];exact Kd.aFf HS.out λk hk=>hk.imp_left λ⟨j,hj,h⟩=>⟨j,by omega,h⟩
     case measure =>
      have:=HLT.out;(simp[intOf]);omega
    (have c1:((i:Int)==(q:Int))=false:=by simp;omega);(have c2:((i:Int) != (q:Int))=true:=by simp;omega);have HQI:=zK_ hq;clear hq;(go_wp2_with fail);refine(aDb.calls (okj i) _ x (q:Int) _ (x.eraseIdx q) w wr HBr.out HRr.out ?hd).mono ?_
    case hd =>
     have hql:q<x.length:=HQ.out.2.2 x (List.mem_of_getElem? HXI.out);unfold aDb.f;rw[if_pos (by omega),if_pos (by omega),if_pos rfl,Int.toNat_natCast]
    rintro e w3 ⟨vD,rfl,hD,hb3,hk3⟩;obtain⟨Ad,cd,ed⟩:=Kd.aBe hD;subst ed;have HD:=zK_ hD;have HB3:=zK_ hb3;have HK3:=zK_ hk3;clear hD hb3 hk3;have HSr:=zK_ (Kd.aFf (ok':=λk=>(((∃ j,j<i+1/\okj j k)∨w2.heap.size<=k)/\¬ (okj i k∨wr.heap.size<=k))) (Kd.aVf (Kd.aHq HS.out) (w1:=w3) λk hk hlt=>HK3.out.2 k hlt λhi=>hk.1.elim (λ⟨j,hj,h⟩=>by have:=HO.out.apart j i k h hi;omega) (λh=>by have:=HSZ.out i k hi;omega)) λk hk=>⟨hk.1.imp_left λ⟨j,hj,h⟩=>⟨j,by omega,h⟩,λh=>h.elim (λhi=>hk.1.elim (λ⟨j,hj,h⟩=>by have:=HO.out.apart j i k h hi;omega) (λh=>by have:=HSZ.out i k hi;omega)) (λh=>by have:=hk.2.2.1;omega)⟩);have HKL:=zK_ (Cf.aOm q L i);(go_wp2_with (first|((with_reducible refine aBk (b:=.append) (xs:=#[.tmp 23,.tmp 29]) rfl ?_);at_builtin;refine Kd.aKo (Kd.slice 3 (Kd.int .i64)) (w0:=w) w.heap.size rfl (.tmp 23) (.tmp 29) 28 42 (.slice none 0 0) 24 rfl Try.underlying28 aOn rfl (by decide) (by omega) u5 (Cf.aIe q L i) (x.eraseIdx q) [.slice Ad (x.eraseIdx q).length cd] (λk=>(∃ j,j<i+1/\okj j k)∨w2.heap.size<=k) (λk=>okj i k∨wr.heap.size<=k) rfl rfl ?aP ?aK ?aF ?aO ?aB ?aS ?aL ?_;(case aP=>exact Kd.aVl HD.out);(case aK=>exact λk hk=>⟨hk.elim (λh=>.inl ⟨i,by omega,h⟩) (λh=>.inr (by have:=HI.out.2;omega)),λe=>(HSr.out.choose_spec.1 k e.symm).2 hk⟩);(case aF=>exact λk hk=>.inr (by have:=HI.out.2;have:=HK3.out.1;omega));(case aO=>exact HSr.out);(case aB=>exact HB3.out);(case aS=>exact aAj HB3.out);(case aL=>have:=HKL.out;have:=HQ.out.2.1;have:=HLT.out;omega);intro v1 w4 ho hb hg hat;have HS4:=zK_ ho;have HB4:=zK_ hb;have HG4:=zK_ hg;clear ho hb hg hat)));go_roundw
    case rel =>
     refine⟨i+1,by go_num,⟨by have:=HLT.out;omega,by have:=HI.out.2;have:=HK3.out.1;have:=HG4.out.size;omega⟩,HB4,⟨λk hk=>?_⟩,⟨?_⟩⟩
     ·have hk2:k<w2.heap.size/\¬ (∃ j,j<i+1/\okj j k):=by
       rcases hk with hk|⟨j,hj,h⟩
       ·(have:k=gL:=by simpa[Value.ownBlock]using hk.symm);subst this;exact⟨HGL.out,λ⟨j,_,h⟩=>HO.out.off j k h rfl⟩
       ·exact⟨HSZ.out j k h,λ⟨j',hj',h'⟩=>by have:=HO.out.apart j j' k h h';omega⟩
      have hkr:k<wr.heap.size:=Nat.lt_of_lt_of_le hk2.1 HI.out.2;(have h1:=HG4.out.block k (Nat.lt_of_lt_of_le hkr HK3.out.1) λe=>(HSr.out.choose_spec.1 k e.symm).1.elim hk2.2 λh=>by have:=hk2.1;omega);(have h2:=HK3.out.2 k hkr λh=>hk2.2 ⟨i,by omega,h⟩);exact h1.trans (h2.trans (HM.out k (hk.imp_right λ⟨j,hj,h⟩=>⟨j,by omega,h⟩)))
     ·have e:Cf.aIe q L (i+1)=Cf.aIe q L i++[x.eraseIdx q]:=by
       show (if i=q then _ else _)=_;rw[if_neg HQI.out,zdG,HXI.out];rfl
      rw[e];exact HS4.out
    case measure =>
     have:=HLT.out;(simp[intOf]);omega
  ·cases H
def aCo.f (k:Nat) (aE:Int) (aC:List (S73)):Option (Int):=(aC6.f aE aC).bind λaX=>(if aX=true then((aC3.f k aE aC 0).bind λbE=>((aBr.f k bE).bind λb3=>(some b3))) else(some 0))
theorem aCo.mono:∀ a0 a1 k,LeO (aCo.f k a0 a1) (aCo.f (k+1) a0 a1):=by
 intro a0 a1 k;unfold aCo.f;repeat' first|(with_reducible apply aBr.mono)|(with_reducible apply aC3.mono)|(with_reducible exact LeO.refl _)|(with_reducible exact LeO.none _)|(with_reducible refine LeO.ite ?_ ?_)|(with_reducible refine LeO.bind ?_ (λ_=>?_))|apply aBr.mono|apply aC3.mono|exact LeO.none _|refine LeO.ite ?_ ?_|refine LeO.bind ?_ (λ_=>?_)
theorem aCo.calls (k:Nat) (aE:Int) (aQ:Option Addr) (aG:Nat) (aC:List (S73)) (r:Int) (w:World) (hr0_1:Kd.C k73 w aQ aC.length aC) (hc0_1:aC.length<=aG) (h:aCo.f k aE aC=some r) :
  Calls Try.prog 20 #[.agg #[.int .i64 aE,.slice aQ aC.length aG]] w λe w'=>e = .returned (.int .i64 r)/\Below w.heap.size w w':=by
 have aIh:=Try.underlying25;have b7:=zK_ hr0_1;have bY:=zK_ hc0_1;clear hr0_1 hc0_1;have HB:=zK_ (Below.refl w.heap.size w);have H:((aC6.f aE aC).bind λaX=>(if aX=true then((aC3.f k aE aC 0).bind λbE=>((aBr.f k bE).bind λb3=>(some b3))) else(some 0)))=some r:=h;clear h;obtain⟨aX,A20,H⟩:=zO_ H;(try dsimp only at H);have A2:=zK_ A20;clear A20;by_cases c3:aX=true;rotate_left
 ·replace c3:=zdB c3;subst c3;rw[if_neg (show ¬ (false=true) by decide)]at H;obtain rfl:=zdI H;go_enter Try.func20,Try.ntmps20;(go_wp2_with (first|((with_reducible refine aAw (N:=1) rfl ?_);refine aAq ?hg (N:=1) ?hd (cs:=#[.int .i64 aE,.slice aQ aC.length aG]) (t:=25) ?hr ?_;(case hd=>rfl);(case hg=>rfl);(case hr=>exact aDq);intro aD hg w13 hbox hb;have n_:=zA4 (aA3 zz2 hb) hbox (aE1:w.heap.size<=aD) (aE1:w.heap.size<=aD);clear HB;obtain⟨HB,aA,aDt,aDe⟩:=n_;clear hb hbox hg;have iO:=aCg aA;have iN:=aCf aA;have iM:=aA0 aA.out 0;have iL:=aA0 aA.out 1)|((with_reducible refine aAa (f:=41) rfl ?_);refine aBg (some 4) rfl rfl Try.func41 (by kernel_rfl) rfl #[.agg #[.int .i64 aE,.slice aQ aC.length aG]] rfl zz3 ?_;(with_reducible refine(aC6.calls aE _ _ aC false _ ?side1 ?side2 A2.out).mono ?_);(case side1=>exact zz7);(case side2=>exact bY.out);rintro e w15 ⟨rfl,hb⟩;refine⟨_,rfl,?_⟩;have n_:=zA2 (aA4 (g:=aD) (o:=.cells #[.int .i64 aE,.slice aQ aC.length aG] 25 (0,0)) zz0 hb) (aA3 zz1 hb);clear aA HB;obtain⟨aA,HB⟩:=n_;clear hb)));go_ret;exact⟨zz9,zz1⟩
 subst c3;rw[if_pos rfl]at H;obtain⟨bE,A40,H⟩:=zO_ H;(try dsimp only at H);have A4:=zK_ A40;clear A40;obtain⟨b3,A50,H⟩:=zO_ H;(try dsimp only at H);have A5:=zK_ A50;clear A50;obtain rfl:=zdI H;go_enter Try.func20,Try.ntmps20;(go_wp2_with (first|((with_reducible refine aAw (N:=1) rfl ?_);refine aAq ?hg (N:=1) ?hd (cs:=#[.int .i64 aE,.slice aQ aC.length aG]) (t:=25) ?hr ?_;(case hd=>rfl);(case hg=>rfl);(case hr=>exact aDq);intro aD hg w6 hbox hb;have n_:=zA4 (aA3 zz2 hb) hbox (aE1:w.heap.size<=aD) (aE1:w.heap.size<=aD);clear HB;obtain⟨HB,aA,aDt,aDe⟩:=n_;clear hb hbox hg;have iH:=aCg aA;have iG:=aCf aA;have iF:=aA0 aA.out 0;have iE:=aA0 aA.out 1)|((with_reducible refine aAa (f:=41) rfl ?_);refine aBg (some 4) rfl rfl Try.func41 (by kernel_rfl) rfl #[.agg #[.int .i64 aE,.slice aQ aC.length aG]] rfl zz3 ?_;(with_reducible refine(aC6.calls aE _ _ aC true _ ?side1 ?side2 A2.out).mono ?_);(case side1=>exact zz7);(case side2=>exact bY.out);rintro e w8 ⟨rfl,hb⟩;refine⟨_,rfl,?_⟩;have n_:=zA2 (aA4 (g:=aD) (o:=.cells #[.int .i64 aE,.slice aQ aC.length aG] 25 (0,0)) zz0 hb) (aA3 zz1 hb);clear aA HB;obtain⟨aA,HB⟩:=n_;clear hb;have iZ:=aCg aA;have iY:=aCf aA;have iX:=aA0 aA.out 0;have iW:=aA0 aA.out 1)|((with_reducible refine aAa (f:=24) rfl ?_);refine aBg (some 7) rfl rfl Try.func24 (by kernel_rfl) rfl #[.agg #[.int .i64 aE,.slice aQ aC.length aG],.int .i64 0] rfl zz3 ?_;(with_reducible refine(aC3.calls k aE _ _ aC 0 bE _ ?side1 ?side2 A4.out).mono ?_);(case side1=>exact zz7);(case side2=>exact bY.out);rintro e w10 ⟨bGr,rfl,ho0,hb⟩;refine⟨_,rfl,?_⟩;have n_:=zA3 (Kd.aNn ho0 (aAj zz1)) (aA4 (g:=aD) (o:=.cells #[.int .i64 aE,.slice aQ aC.length aG] 25 (0,0)) zz0 hb) (aA3 zz1 hb);clear aA HB;obtain⟨gT,aA,HB⟩:=n_;clear ho0 hb;obtain⟨bLx,bLc,LZ⟩:=Kd.aJq gT.out;subst LZ)|((with_reducible refine aAa (f:=23) rfl ?_);refine aBg (some 8) rfl rfl Try.func23 (by kernel_rfl) rfl #[.slice bLx bE.length bLc] rfl zz3 ?_;(with_reducible refine(aBr.calls k _ _ bE b3 _ ?side1 ?side2 A5.out).mono ?_);(case side1=>repeat(first|exact(Kd.aKn gT.out).2.2|(with_reducible refine Kd.aCr ?_ _)|(with_reducible refine Kd.aCq ?_ _)|(with_reducible refine Kd.aDf ?_)));(case side2=>exact(Kd.aKn gT.out).2.1);rintro e w12 ⟨rfl,hb⟩;refine⟨_,rfl,?_⟩;have n_:=zA3 (Kd.aFj (by(with_reducible repeat(first|apply Kd.aFv|apply Kd.aFu|apply Kd.aH7));exact gT.out) hb) (aA4 (g:=aD) (o:=.cells #[.int .i64 aE,.slice aQ aC.length aG] 25 (0,0)) zz0 hb) (aA3 zz1 hb);clear gT aA HB;obtain⟨gT,aA,HB⟩:=n_;clear hb)));go_ret;exact⟨zz9,zz1⟩
def aC9.f (k:Nat) (aE:Int) (aC:List (S73)):Option (Int):=(aCo.f k aE aC).bind λaX=>(some aX)
theorem aC9.mono:∀ a0 a1 k,LeO (aC9.f k a0 a1) (aC9.f (k+1) a0 a1):=by
 intro a0 a1 k;unfold aC9.f;repeat' first|(with_reducible apply aCo.mono)|(with_reducible exact LeO.refl _)|(with_reducible exact LeO.none _)|(with_reducible refine LeO.ite ?_ ?_)|(with_reducible refine LeO.bind ?_ (λ_=>?_))|apply aCo.mono|exact LeO.none _|refine LeO.ite ?_ ?_|refine LeO.bind ?_ (λ_=>?_)
theorem aC9.calls (k:Nat) (aE:Int) (aQ:Option Addr) (aG:Nat) (aC:List (S73)) (r:Int) (w:World) (hr0_1:Kd.C k73 w aQ aC.length aC) (hc0_1:aC.length<=aG) (h:aC9.f k aE aC=some r) :
  Calls Try.prog 34 #[.agg #[.int .i64 aE,.slice aQ aC.length aG]] w λe w'=>e = .returned (.int .i64 r)/\Below w.heap.size w w':=by
 have aIh:=Try.underlying25;have b7:=zK_ hr0_1;have bY:=zK_ hc0_1;clear hr0_1 hc0_1;have HB:=zK_ (Below.refl w.heap.size w);have H:((aCo.f k aE aC).bind λaX=>(some aX))=some r:=h;clear h;obtain⟨aX,A20,H⟩:=zO_ H;(try dsimp only at H);have A2:=zK_ A20;clear A20;obtain rfl:=zdI H;go_enter Try.func34,Try.ntmps34;(go_wp2_with (first|((with_reducible refine aAw (N:=1) rfl ?_);refine aAq ?hg (N:=1) ?hd (cs:=#[.int .i64 aE,.slice aQ aC.length aG]) (t:=25) ?hr ?_;(case hd=>rfl);(case hg=>rfl);(case hr=>exact aDq);intro aD hg w3 hbox hb;have n_:=zA4 (aA3 zz2 hb) hbox (aE1:w.heap.size<=aD) (aE1:w.heap.size<=aD);clear HB;obtain⟨HB,aA,aDt,aDe⟩:=n_;clear hb hbox hg;have yI:=aCg aA;have yH:=aCf aA;have KW:=aA0 aA.out 0;have yF:=aA0 aA.out 1)|((with_reducible refine aAa (f:=20) rfl ?_);refine aBg (some 4) rfl rfl Try.func20 (by kernel_rfl) rfl #[.agg #[.int .i64 aE,.slice aQ aC.length aG]] rfl zz3 ?_;(with_reducible refine(aCo.calls k aE _ _ aC aX _ ?side1 ?side2 A2.out).mono ?_);(case side1=>exact zz7);(case side2=>exact bY.out);rintro e w5 ⟨rfl,hb⟩;refine⟨_,rfl,?_⟩;have n_:=zA2 (aA4 (g:=aD) (o:=.cells #[.int .i64 aE,.slice aQ aC.length aG] 25 (0,0)) zz0 hb) (aA3 zz1 hb);clear aA HB;obtain⟨aA,HB⟩:=n_;clear hb)));go_ret;exact⟨zz9,zz1⟩
end P
namespace Cf
def aI5 (w:World) (base:Nat) (ok:Nat->Prop) (f:Nat->Nat) (cur:Array Value) (Z:List (List Int×Nat)):Prop :=
 ∀ (j:Nat) (x:List Int) (i:Nat),Z[j]? = some (x,i)->∃ v,cur[j]? = some v/\Kd.R (Kd.int .i64) 3 w base (λk=>ok k/\f k=i) v x
theorem aVg {w:World} {base g n cap:Nat} {ok:Nat->Prop} {rows:List (List Int)} (h:Kd.S (Kd.slice 3 (Kd.int .i64)) 42 w base ok (.slice (some ⟨g,0,none⟩) n cap) rows) :
  ∃ f cur,base<=g/\ok g/\n=rows.length/\n<=cap/\cap<=maxLen/\cur.size=cap/\w.heap[g]? = some (.cells cur 42 (0,0))/\aI5 w base (λk=>ok k/\k≠g) f cur rows.zipIdx:=by
 obtain⟨f,h0,inner,ho,hr⟩:=h
 rw[List.length_zipIdx]at ho
 have hn:=ho.1
 rcases ho.2 with ⟨hv,_⟩|⟨g',cap',cur,hv,hb,hc,hnc,hcm,hcs,htk⟩
 ·cases hv
 ·injection hv with hA hN hC
  injection hA with hA
  injection hA with hA
  subst hA
  subst hC
  have hl:(rows.length:Nat)=n:=hN.symm
  refine⟨f,cur,hb,h0 g rfl,hl.symm,by omega,hcm,by rw[hcs];exact Nat.mul_one _,hc,?_⟩
  intro j x i hj
  have hM:=hr.2 j (x,i) hj
  obtain⟨v,hv2,hR⟩:=hM
  refine⟨v,?_,Kd.aBh hR λk hk=>⟨⟨hk.1.1,λe=>hk.1.2 (by rw[e];rfl)⟩,hk.2⟩⟩
  have e1:((inner.drop (j*1)).take 1)=[v]:=hv2
  rw[Nat.mul_one]at e1
  have hjl:j<rows.length:=by have:=(List.getElem?_eq_some_iff.1 hj).1;rwa[List.length_zipIdx]at this
  have e2:inner[j]? = some v:=by
   have h1:=congrArg (λl:List Value=>l[0]?) e1
   simp only[List.getElem?_take,List.getElem?_drop]at h1
   simpa using h1
  rw[<-htk,List.getElem?_take,if_pos (by show j<rows.length*1;omega)]at e2
  simpa using e2
theorem aQ3 {w:World} {base g cap:Nat} {ok:Nat->Prop} {f:Nat->Nat} {cur:Array Value} {rows:List (List Int)} (hb:base<=g) (hok:ok g) (hn:rows.length<=cap) (hcm:cap<=maxLen) (hcs:cur.size=cap) (hc:w.heap[g]? = some (.cells cur 42 (0,0))) (hH:aI5 w base ok f cur rows.zipIdx) :
  Kd.S (Kd.slice 3 (Kd.int .i64)) 42 w base ok (.slice (some ⟨g,0,none⟩) rows.length cap) rows:=by
 have hz:rows.zipIdx.length=rows.length:=List.length_zipIdx
 refine⟨f,λk hk=>?_,cur.toList.take rows.length,?_,?_⟩
 ·have:g=k:=by simpa[Value.ownBlock]using hk
  rw[<-this];exact hok
 ·rw[hz]
  refine⟨?_,.inr ⟨g,cap,cur,rfl,hb,hc,hn,hcm,by rw[hcs];exact(Nat.mul_one _).symm,?_⟩⟩
  ·show _=rows.length*1
   rw[List.length_take,show cur.toList.length=cap from hcs,Nat.min_eq_left hn,Nat.mul_one]
  ·show cur.toList.take (rows.length*1)=_
   rw[Nat.mul_one]
 ·refine⟨?_,λj p hj=>?_⟩
  ·show _=rows.zipIdx.length*1
   rw[hz,List.length_take,show cur.toList.length=cap from hcs,Nat.min_eq_left hn,Nat.mul_one]
  ·obtain⟨x,i⟩:=p
   obtain⟨v,hv,hR⟩:=hH j x i hj
   have hjl:j<rows.length:=by have:=(List.getElem?_eq_some_iff.1 hj).1;rwa[List.length_zipIdx]at this
   refine⟨v,?_,Kd.aBh (Kd.aDp hR hc (by decide)) λk hk=>⟨⟨hk.1.1,λe=>hk.2 (by simpa[Value.ownBlock]using e)⟩,hk.1.2⟩⟩
   show ((cur.toList.take rows.length).drop (j*1)).take 1=[v]
   have e:(cur.toList.take rows.length)[j]? = some v:=by
    rw[List.getElem?_take,if_pos hjl]
    simpa using hv
   obtain⟨hl,he⟩:=List.getElem?_eq_some_iff.1 e
   rw[Nat.mul_one,List.drop_eq_getElem_cons hl,he]
   rfl
def aGl (p:List Int->Bool) (rows:List (List Int)) (j:Nat):List (List Int×Nat):=(rows.zipIdx.take j).filter λx => !p x.1
theorem aJl (p:List Int->Bool) {rows:List (List Int)} {j:Nat} (h:j<rows.length):aGl p rows (j+1)=aGl p rows j++(if p rows[j]=true then [] else [(rows[j],j)]):=by
 have hz:rows.zipIdx[j]? = some (rows[j],j):=by rw[List.getElem?_zipIdx,zdH h,Nat.zero_add];rfl
 unfold aGl
 rw[List.take_add_one,hz,List.filter_append]
 congr 1
 by_cases c:p rows[j]=true
 ·rw[if_pos c];simp[c]
 ·rw[if_neg c];simp[c]
theorem aOl (p:List Int->Bool) (rows:List (List Int)):(aGl p rows rows.length).map (·.1)=rows.filter λx => !p x:=by
 unfold aGl
 rw[List.take_of_length_le (by rw[List.length_zipIdx];exact Nat.le_refl _)]
 have h:=List.filter_map (f:=λx:List Int×Nat=>x.1) (p:=λx => !p x) (l:=rows.zipIdx)
 rw[List.zipIdx_map_fst]at h
 exact h.symm
theorem aPp (p:List Int->Bool) (rows:List (List Int)) (j:Nat):((aGl p rows j).map (·.2)).Nodup:=by
 have h1:(aGl p rows j).Sublist rows.zipIdx:=(List.filter_sublist).trans (List.take_sublist _ _)
 have h2:=h1.map (·.2)
 refine h2.nodup ?_
 rw[List.zipIdx_map_snd]
 exact List.nodup_range'
theorem aSh {w:World} {base:Nat} {ok:Nat->Prop} {f:Nat->Nat} {cur:Array Value} {Z:List (List Int×Nat)} (h:aI5 w base ok f cur Z) {v:Value} {x:List Int} {t:Nat} (hl:Z.length<cur.size) (hR:Kd.R (Kd.int .i64) 3 w base (λk=>ok k/\f k=t) v x):aI5 w base ok f (cur.setIfInBounds Z.length v) (Z++[(x,t)]):=by
 intro j y i hj
 by_cases e:j<Z.length
 ·rw[List.getElem?_append_left e]at hj
  obtain⟨u,hu,hRu⟩:=h j y i hj
  exact⟨u,by rw[Array.getElem?_setIfInBounds_ne (by omega)];exact hu,hRu⟩
 ·have hjl:=(List.getElem?_eq_some_iff.1 hj).1
  rw[List.length_append,List.length_singleton]at hjl
  obtain rfl:j=Z.length:=by omega
  rw[List.getElem?_append_right (Nat.le_refl _),Nat.sub_self]at hj
  obtain⟨rfl,rfl⟩:=Prod.mk.inj (zdI hj)
  exact⟨v,by rw[Array.getElem?_setIfInBounds_self_of_lt hl],hR⟩
theorem aSg {w:World} {base:Nat} {ok:Nat->Prop} {f:Nat->Nat} {cur:Array Value} {Z:List (List Int×Nat)} (h:aI5 w base ok f cur Z) (n:Nat):aI5 w base ok f cur (Z.take n):=by
 intro j x i hj
 rw[List.getElem?_take]at hj
 split at hj
 ·exact h j x i hj
 ·cases hj
theorem aQ2 {w:World} {base:Nat} {ok:Nat->Prop} {f:Nat->Nat} {cur cur':Array Value} {Z:List (List Int×Nat)} (h:aI5 w base ok f cur Z) (hc:∀ j,j<Z.length->cur'[j]? = cur[j]?):aI5 w base ok f cur' Z:=by
 intro j x i hj
 obtain⟨v,hv,hR⟩:=h j x i hj
 exact⟨v,(hc j (List.getElem?_eq_some_iff.1 hj).1).trans hv,hR⟩
theorem aG9 {w w1:World} {base:Nat} {ok:Nat->Prop} {f:Nat->Nat} {cur:Array Value} {Z:List (List Int×Nat)} (h:aI5 w base ok f cur Z) (hm:∀ k,ok k->k<w.heap.size->w1.heap[k]? = w.heap[k]?):aI5 w1 base ok f cur Z:=λj x i hj=>by
 obtain⟨v,hv,hR⟩:=h j x i hj
 exact⟨v,hv,Kd.aHr hR λk hk hlt=>hm k hk.1 hlt⟩
theorem aUb (p:List Int->Bool) (rows:List (List Int)) {i:Nat} (hi:i<=rows.length) (h:∀ j,(hj:j<rows.length)->j<i->p rows[j]=false):aGl p rows i=rows.zipIdx.take i:=by
 unfold aGl
 rw[List.filter_eq_self]
 intro x hx
 obtain⟨j,hj,rfl⟩:=List.getElem_of_mem hx
 rw[List.length_take,List.length_zipIdx]at hj
 rw[List.getElem_take,List.getElem_zipIdx]
 simp only
 rw[h j (by omega) (by omega)]
 rfl
theorem bDs {w:World} {base g cap:Nat} {ok:Nat->Prop} {f:Nat->Nat} {cur:Array Value} {rows:List (List Int)} {p:List Int->Bool} (hb:base<=g) (hok:ok g) (hn:rows.length<=cap) (hcm:cap<=maxLen) (hcs:cur.size=cap) (hc:w.heap[g]? = some (.cells cur 42 (0,0))) (hH:aI5 w base ok f cur (aGl p rows rows.length)) :
  Kd.S (Kd.slice 3 (Kd.int .i64)) 42 w base ok (.slice (some ⟨g,0,none⟩) (rows.filter λx => !p x).length cap) (rows.filter λx => !p x):=by
 have hl:(rows.filter λx => !p x).length<=cap:=Nat.le_trans (List.length_filter_le _ _) hn
 refine aQ3 (f:=λk=>((aGl p rows rows.length).map (·.2)).idxOf (f k)) hb hok hl hcm hcs hc ?_
 intro j x i hj
 rw[<-aOl p rows]at hj
 rw[List.getElem?_zipIdx,Nat.zero_add,List.getElem?_map]at hj
 obtain⟨y,hy,he⟩:=Option.map_eq_some_iff.1 hj
 obtain⟨z,hz,hz2⟩:=Option.map_eq_some_iff.1 hy
 obtain⟨z1,z2⟩:=z
 subst hz2
 obtain⟨rfl,rfl⟩:=Prod.mk.inj he
 obtain⟨v,hv,hR⟩:=hH j z1 z2 hz
 refine⟨v,hv,Kd.aBh hR λk hk=>⟨hk.1,?_⟩⟩
 show ((aGl p rows rows.length).map (·.2)).idxOf (f k)=j
 have hm:((aGl p rows rows.length).map (·.2))[j]? = some z2:=by rw[List.getElem?_map,hz];rfl
 obtain⟨hjl,hje⟩:=List.getElem?_eq_some_iff.1 hm
 rw[hk.2,<-hje]
 exact(aPp p rows rows.length).idxOf_getElem j hjl
def aLi (m:Nat) (d:List Int):List (List Int):=(List.range m).map λt:Nat=>d++[(t:Int)]
theorem aOr (d:List Int):aLi 0 d=[]:=rfl
theorem aOs (m:Nat) (d:List Int):aLi (m+1) d=aLi m d++[d++[(m:Int)]]:=by
 unfold aLi
 rw[List.range_succ,List.map_append]
 rfl
theorem aNg (m:Nat) (d:List Int):(aLi m d).length=m:=by unfold aLi;simp
def aGk (c:Nat->Nat):Nat->List (List Int)
 | 0=>[[]]
 | v+1=>(aGk c v).flatMap (aLi (c v))
def aPo (m:Nat) (L:List (List Int)) (i:Nat):List (List Int):=(L.take i).flatMap (aLi m)
theorem aOa (m:Nat) {L:List (List Int)} {i:Nat} {x:List Int} (h:L[i]? = some x):aPo m L (i+1)=aPo m L i++aLi m x:=by
 unfold aPo
 rw[List.take_add_one,h,List.flatMap_append]
 simp
theorem aQx (c:Nat->Nat) (v:Nat):aPo (c v) (aGk c v) (aGk c v).length=aGk c (v+1):=by
 unfold aPo
 rw[List.take_length]
 rfl
theorem aHm (m:Nat):∀ L:List (List Int),(L.flatMap (aLi m)).length=L.length*m
 | []=>by simp
 | x::L=>by
  rw[List.flatMap_cons,List.length_append,aNg,aHm m L,List.length_cons,Nat.add_mul,Nat.one_mul,Nat.add_comm]
theorem aQw (m:Nat) (L:List (List Int)) (i:Nat):(aPo m L i).length<=L.length*m:=by
 unfold aPo
 rw[aHm,List.length_take]
 exact Nat.mul_le_mul_right _ (Nat.min_le_right _ _)
theorem aRh {c:Nat->Nat} {b:Nat}:∀ {v:Nat},(∀ u,u<v->c u<=b)->(aGk c v).length<=b^v
 | 0,_=>Nat.le_refl _
 | v+1,h=>by
  show ((aGk c v).flatMap (aLi (c v))).length<=_
  rw[aHm,Nat.pow_succ]
  exact Nat.mul_le_mul (aRh λu hu=>h u (by omega)) (h v (by omega))
theorem aG6 {c:Nat->Nat}:∀ {v:Nat} {x:List Int},x∈aGk c v->x.length=v/\∀ (j:Nat) (h:j<x.length),0<=x[j]/\x[j]<(c j:Int)
 | 0,x,h=>by
  rw[aGk,List.mem_singleton]at h
  subst h
  exact⟨rfl,λj h=>absurd h (by simp)⟩
 | v+1,x,h=>by
  rw[aGk,List.mem_flatMap]at h
  obtain⟨d,hd,hx⟩:=h
  obtain⟨h1,h2⟩:=aG6 hd
  unfold aLi at hx
  obtain⟨t,ht,rfl⟩:=List.mem_map.1 hx
  rw[List.mem_range]at ht
  refine⟨by simp[h1],λj hj=>?_⟩
  by_cases e:j<d.length
  ·rw[List.getElem_append_left e]
   exact h2 j e
  ·rw[List.length_append,List.length_singleton]at hj
   obtain rfl:j=d.length:=by omega
   rw[List.getElem_append_right (Nat.le_refl _)]
   simp only[Nat.sub_self,List.getElem_singleton]
   rw[h1]
   omega
end Cf
namespace P
def aA5.pr (k:Nat) (a0:Int) (es:List S73) (q:Int) (x:List Int):Bool:=match aB0.f k a0 es x q with|some r=>decide ((r.length:Int)<a0)|none=>false
structure aA5.Ctx (a0 q:Int) (es:List S73) (A0:Option Addr) (c0 bg bq g cap:Nat) (ok:Nat->Prop) (f:Nat->Nat) (cur:Array Value) (rows:List (List Int)) (w0 w:World):Prop where
 hb:Below w0.heap.size w0 w
 hg:w.heap[bg]? = some (.cells #[.int .i64 a0,.slice A0 es.length c0] 25 (0,0))
 hq:w.heap[bq]? = some (.cells #[.int .i64 q] 3 (0,0))
 hc:w.heap[g]? = some (.cells cur 42 (0,0))
 hH:Cf.aI5 w w0.heap.size ok f cur rows.zipIdx
theorem aA5.Ctx.step {a0 q:Int} {es:List S73} {A0:Option Addr} {c0 bg bq g cap:Nat} {ok:Nat->Prop} {f:Nat->Nat} {cur:Array Value} {rows:List (List Int)} {w0 w w1:World} (h:aA5.Ctx a0 q es A0 c0 bg bq g cap ok f cur rows w0 w) (hb:Below w.heap.size w w1):aA5.Ctx a0 q es A0 c0 bg bq g cap ok f cur rows w0 w1 :=
 ⟨aA3 h.hb hb,aA4 h.hg hb,aA4 h.hq hb,aA4 h.hc hb,Cf.aG9 h.hH λk _ hlt=>hb.block k hlt⟩
theorem aA5.Ctx.row {a0 q:Int} {es:List S73} {A0:Option Addr} {c0 bg bq g cap:Nat} {ok:Nat->Prop} {f:Nat->Nat} {cur:Array Value} {rows:List (List Int)} {w0 w:World} (h:aA5.Ctx a0 q es A0 c0 bg bq g cap ok f cur rows w0 w) {j:Nat} (hj:j<rows.length):∃ A c,cur[j]? = some (.slice A rows[j].length c)/\Kd.R (Kd.int .i64) 3 w w0.heap.size (λk=>ok k/\f k=j) (.slice A rows[j].length c) rows[j]:=by
 obtain⟨v,hv,hR⟩:=h.hH j rows[j] j (by rw[List.getElem?_zipIdx,zdH hj,Nat.zero_add];rfl);obtain⟨A,c,e⟩:=Kd.aBe hR;subst e;exact⟨A,c,hv,hR⟩
def aA5.T1:Bool×List (List Nat×List Nat):=(true,[([],[]),([],[]),([],[]),([0,1,2],[0,1,2]),([3],[3]),([],[]),([5],[5]),([4,6],[4,6]),([7,3,0,1,2,3,4,5,6,7],[7])])
def aA5.B1:List Nat:=[0,0,0,7,15,0,32,127,255]
theorem aA5.bJw:aI2 .any (opsOf Try.f109 1)=aA5.T1:=by kernel_rfl
theorem aA5.bHg:aFh aA5.T1.2 aA5.B1=true:=by kernel_rfl
theorem aA5.clo (k:Nat) (a0 q:Int) (es:List S73) (A0:Option Addr) (c0 bg bq:Nat) (w:World) (hE:Kd.C k73 w A0 es.length es) (hc0:es.length<=c0) (hg:w.heap[bg]? = some (.cells #[.int .i64 a0,.slice A0 es.length c0] 25 (0,0))) (hq:w.heap[bq]? = some (.cells #[.int .i64 q] 3 (0,0))) (Ax:Option Addr) (cx:Nat) (x r:List Int) (hx:Kd.C (Kd.int .i64) w Ax x.length x) (hcx:x.length<=cx) (h:aB0.f k a0 es x q=some r) :
  Calls Try.prog 109 #[.slice Ax x.length cx,.pointer (some ⟨bg,0,none⟩),.pointer (some ⟨bq,0,none⟩)] w λe w'=>e = .returned (.bool (aA5.pr k a0 es q x))/\Below w.heap.size w w':=by
 have aIh:=Try.underlying25;(have hpr:aA5.pr k a0 es q x=decide ((r.length:Int)<a0):=by unfold aA5.pr;rw[h]);rw[hpr];have HE:=aA1.mk hE;have HC:=aA1.mk hc0;have HG:=aA1.mk hg;have HQ:=aA1.mk hq;have HX:=aA1.mk hx;have HCX:=aA1.mk hcx;have HH:=aA1.mk h;clear hE hc0 hg hq hx hcx h hpr;go_enter Try.func109,Try.ntmps109;(try go_wp2);refine aFy (n:=9) (S:=λw'=>w'.cell? ⟨bg,0,none⟩=some (.int .i64 a0)/\w'.cell? ⟨bg,1,none⟩=some (.slice A0 es.length c0)/\w'.cell? ⟨bq,0,none⟩=some (.int .i64 q)) (ds:=[]) (zM 9 0) (by kernel_rfl) rfl rfl ⟨(aAs HG.out 0).trans rfl,(aAs HG.out 1).trans rfl,(aAs HQ.out 0).trans rfl⟩ (λhHeld=>?_);refine aE7 aA5.bJw aA5.bHg (λHT_ HW_=>?_);have HB1:=aA1.mk (aI0 (Below.refl w.heap.size w));have HG1:=aA1.mk (aA4 HG.out HB1.out);have PH:=aA1.mk (aA4 HQ.out HB1.out);have HE1:=aA1.mk (Kd.aDj HE.out HB1.out);have HX1:=aA1.mk (Kd.aDj HX.out HB1.out);generalize w.drew=wd at HB1 HG1 PH HE1 HX1 hHeld ⊢;refine zQ 1 6 (zM 9 2) ?_
 refine zQ 5 10 (zM 9 34) ?_
 refine aEc (i:=0) (N:=some 5) (v:=?_) (a':=?_) (zM 9 35) rfl rfl (aCp HT_.out HW_.out (by kernel_rfl)) (λ_ _ _ h=>h) (Or.inl ⟨by rfl,?_⟩) hHeld ?_ ?_;rotate_left
 ·rintro w' ⟨s0,s1,s2⟩;exact zzT
 rotate_left
 ·exact zzS
 refine aEc (i:=2) (N:=some 7) (v:=?_) (a':=?_) (zM 9 39) rfl rfl (aCp HT_.out HW_.out (by kernel_rfl)) (λ_ _ _ h=>h) (Or.inl ⟨by rfl,?_⟩) hHeld ?_ ?_;rotate_left
 ·rintro w' ⟨s0,s1,s2⟩;exact zzT
 rotate_left
 ·exact zzS
 refine aEc (i:=6) (N:=some 11) (v:=?_) (a':=?_) (zM 9 103) rfl rfl (aCp HT_.out HW_.out (by kernel_rfl)) (λ_ _ _ h=>h) (Or.inl ⟨by rfl,?_⟩) hHeld ?_ ?_;rotate_left
 ·rintro w' ⟨s0,s1,s2⟩;exact zzT
 rotate_left
 ·exact zzS
 refine aLu (i:=3) (N:=some 8) (zM 9 111) rfl rfl (aEs HT_.out (by kernel_rfl)) (by decide) (λK hK=>?_);refine aGd Try.func106 (by kernel_rfl) rfl #[.agg #[.int .i64 a0,.slice A0 es.length c0],.slice Ax x.length cx,.int .i64 q] (by rfl) rfl rfl (by(try simp only[List.map_toArray,List.map_cons,List.map_nil]);first|done|rfl) ?_;refine(aB0.calls k a0 _ _ es _ _ x q r _ HE1.out HC.out HX1.out HCX.out HH.out).mono ?_;rintro e w2 ⟨v2,rfl,hR,hb⟩;obtain⟨Ar,cr,er⟩:=Kd.aBe hR;subst er;have HB2:=aA1.mk (aA3 HB1.out hb);have HG2:=aA1.mk (aA4 HG1.out hb);have PX:=aA1.mk (aA4 PH.out hb);clear hR hb;refine⟨_,rfl,?_⟩;refine hK.out _ _ ⟨(aAs HG2.out 0).trans rfl,(aAs HG2.out 1).trans rfl,(aAs PX.out 0).trans rfl⟩ (λhHeld=>?_);clear hK K;refine aEm (a':=?_) ?_ ?_;rotate_left
 ·show Act.put _ (some 8) _=_;exact zzS
 refine zQ 4 9 (zM 9 127) ?_
 refine zQ 7 12 (zM 9 255) ?_
 refine zQ 8 4 (zM 9 511) ?_
 refine aI3 (aF7 HT_.out (by kernel_rfl)) ?_;(try go_wp2);go_ret;exact⟨rfl,HB2.out⟩
theorem aA5.idx (k:Nat) (a0 q:Int) (es:List S73) (A0:Option Addr) (c0 bg bq g cap:Nat) (ok:Nat->Prop) (f:Nat->Nat) (cur:Array Value) (rows:List (List Int)) (w0 w:World) (hE:Kd.C k73 w0 A0 es.length es) (hc0:es.length<=c0) (hI:aA5.Ctx a0 q es A0 c0 bg bq g cap ok f cur rows w0 w) (hl:rows.length<=1000000000) (hcap:rows.length<=cap) (hP:∀ x∈rows,(aB0.f k a0 es x q).isSome=true) :
  Calls Try.prog 120 #[.slice (some ⟨g,0,none⟩) rows.length cap,.func (.func 109) #[] #[.pointer (some ⟨bg,0,none⟩),.pointer (some ⟨bq,0,none⟩)]] w λe w'=>Below w.heap.size w w'/\((e = .returned (.int .i64 (-1))/\∀ x∈rows,aA5.pr k a0 es q x=false)∨∃ i:Nat,e = .returned (.int .i64 (i:Int))/\i<rows.length/\(∀ j,(h:j<rows.length)->j<i->aA5.pr k a0 es q rows[j]=false)/\∀ h:i<rows.length,aA5.pr k a0 es q rows[i]=true):=by
 have HE:=aA1.mk hE;have HC:=aA1.mk hc0;have HI:=aA1.mk hI;have HL:=aA1.mk hl;have HCAP:=aA1.mk hcap;have HP:=aA1.mk hP;clear hE hc0 hI hl hcap hP;go_enter Try.func120,Try.ntmps120;go_wp2;(go_loopw [8] (λv8 wr=>∃ i:Nat,v8 = .int .i64 (i:Int)/\aA1 (i<=rows.length)/\aA1 (aA5.Ctx a0 q es A0 c0 bg bq g cap ok f cur rows w0 wr)/\aA1 (Below w.heap.size w wr)/\aA1 (∀ j,(h:j<rows.length)->j<i->aA5.pr k a0 es q rows[j]=false)) (λv _=>rows.length-(intOf v).toNat));case atStart=>exact⟨0,rfl,⟨Nat.zero_le _⟩,HI,⟨Below.refl _ _⟩,⟨λj _ h=>absurd h (by omega)⟩⟩
 case round =>
  obtain⟨i,rfl,HIL,HIr,HBr,HF⟩:=hrel;by_cases hlt:i<rows.length;rotate_left
  ·have d0:decide ((i:Int)<(rows.length:Int))=false:=zdN (by omega);have d1:decide (i<rows.length)=false:=zdN hlt;(have hi:i=rows.length:=by have:=HIL.out;omega);clear hlt;go_wp2;go_ret;refine⟨HBr.out,Or.inl ⟨rfl,λx hx=>?_⟩⟩;obtain⟨j,hj,rfl⟩:=List.getElem_of_mem hx;exact HF.out j hj (by omega)
  have d0:decide ((i:Int)<(rows.length:Int))=true:=zdY (by omega);have d1:decide (i<rows.length)=true:=zdY hlt;(have p1:(0:Int)<=(i:Int):=by omega);(have p2:(i:Int)<(rows.length:Int):=by omega);(have hib:(i:Int)<=1000000000:=by have:=HL.out;omega);obtain⟨Ai,ci,bIb,hRi⟩:=HIr.out.row hlt;have hcell:wr.cell? ⟨g,i,none⟩=some (.slice Ai rows[i].length ci):=(aAs HIr.out.hc i).trans bIb;obtain⟨r,hr⟩:=Option.isSome_iff_exists.1 (HP.out _ (List.getElem_mem hlt));have HRR:=aA1.mk hr;have HRi:=aA1.mk (Kd.aAc hRi);have HLT:=aA1.mk hlt;clear bIb hRi hr;generalize hx:rows[i]'HLT.out=x at hcell HRR HRi;have HXX:=aA1.mk hx;clear hx hlt;(go_wp2_with fail);refine(aA5.clo k a0 q es A0 c0 bg bq _ (Kd.aDj HE.out HIr.out.hb) HC.out HIr.out.hg HIr.out.hq _ _ x r HRi.out.2.2 HRi.out.2.1 HRR.out).mono ?_;rintro e w1 ⟨rfl,hb⟩;have HI1:=aA1.mk (HIr.out.step hb);have HB1:=aA1.mk (aA3 HBr.out hb);clear hb hcell
  cases hp:aA5.pr k a0 es q x with
  | true =>
   go_wp2;go_ret;exact⟨HB1.out,Or.inr ⟨i,rfl,HLT.out,HF.out,λh=>by rw[HXX.out];exact hp⟩⟩
  | false =>
   have HPP:=aA1.mk hp;clear hp;go_wp2;go_roundw
   case rel =>
    refine⟨i+1,by go_num,⟨HLT.out⟩,HI1,HB1,⟨λj h hj=>?_⟩⟩;by_cases e:j=i
    ·subst e;rw[HXX.out];exact HPP.out
    ·exact HF.out j h (by omega)
   case measure =>
    have:=HLT.out;(simp[intOf]);omega
theorem aA5.bL6 {P:Program} (t e:TypeId) {i:TypeInfo} (ht:P.underlying t=some (.slice e)) (hi:P.info? e=some i) (hsz:i.size=1) (g n c l:Nat) (hl:l<=n) (hc:l<c):∀ W:World,(Instr.slice t (.slice (some ⟨g,0,none⟩) n c) (some (.int .i64 (l:Int))) none none).run P W = .ok (.slice (some ⟨g,l,none⟩) (n-l) (c-l)) W:=by
 intro W;(have hel:P.elem t=e:=by simp[Program.elem,ht]);(have hu:P.underlying t=some (.slice (P.elem t)):=by rw[hel];exact ht);rw[run_slice_l W t (some ⟨g,0,none⟩) n c hu .i64 (l:Int) (by omega) (by omega),hel];(have hne:¬ (c=l):=by omega);(simp[sizeOf,typeInfo,hi,hsz,sliced,Result.andThen,Addr.add,hne]);omega
theorem aA5.bL7 {P:Program} (t e:TypeId) {i:TypeInfo} (ht:P.underlying t=some (.slice e)) (hi:P.info? e=some i) (hsz:i.size=1) (g n c h:Nat) (hc:h<=c):∀ W:World,(Instr.slice t (.slice (some ⟨g,0,none⟩) n c) none (some (.int .i64 (h:Int))) none).run P W = .ok (.slice (some ⟨g,0,none⟩) h c) W:=by
 intro W;(have hel:P.elem t=e:=by simp[Program.elem,ht]);(have hu:P.underlying t=some (.slice (P.elem t)):=by rw[hel];exact ht);rw[run_slice_h W t (some ⟨g,0,none⟩) n c hu .i64 (h:Int) (by omega) (by omega),hel];simp[sizeOf,typeInfo,hi,hsz,sliced,Result.andThen,Addr.add]
theorem aA5.del (k:Nat) (a0 q:Int) (es:List S73) (A0:Option Addr) (c0 bg bq g cap:Nat) (ok:Nat->Prop) (f:Nat->Nat) (cur:Array Value) (rows:List (List Int)) (w0 w:World) (hE:Kd.C k73 w0 A0 es.length es) (hc0:es.length<=c0) (hI:aA5.Ctx a0 q es A0 c0 bg bq g cap ok f cur rows w0 w) (hl:rows.length<=1000000000) (hcap:rows.length<=cap) (hP:∀ x∈rows,(aB0.f k a0 es x q).isSome=true) (hcs:cur.size=cap) (hcm:cap<=maxLen) (hbg:w0.heap.size<=g) (hok:∀ k_,ok k_->k_≠g) (hne:bg≠g/\bq≠g) :
  Calls Try.prog 108 #[.slice (some ⟨g,0,none⟩) rows.length cap,.func (.func 109) #[] #[.pointer (some ⟨bg,0,none⟩),.pointer (some ⟨bq,0,none⟩)]] w λe w'=>∃ v:Value,e = .returned v/\Kd.S (Kd.slice 3 (Kd.int .i64)) 42 w' w0.heap.size (λk_=>ok k_∨k_=g) v (rows.filter λx => !aA5.pr k a0 es q x)/\Below w0.heap.size w0 w':=by
 have hidx:=aA5.idx k a0 q es A0 c0 bg bq g cap ok f cur rows w0 w hE hc0 hI hl hcap hP;have HE:=aA1.mk hE;have HC:=aA1.mk hc0;have HI:=aA1.mk hI;have HL:=aA1.mk hl;have HCAP:=aA1.mk (show rows.length<=cap/\cur.size=cap/\cap<=maxLen from ⟨hcap,hcs,hcm⟩);have HP:=aA1.mk hP;have HBG:=aA1.mk hbg;have HOK:=aA1.mk hok;have HNE:=aA1.mk hne;have bIs:=aA1.mk hidx;(have hnb:(rows.length:Int)<=1000000000:=by omega);clear hE hc0 hI hl hcap hP hcs hcm hbg hok hne hidx;go_enter Try.func108,Try.ntmps108;(go_wp2_with fail);refine bIs.out.mono ?_;rintro e w1 ⟨hb,hcase⟩;have HI1:=aA1.mk (HI.out.step hb);clear hb bIs;rcases hcase with ⟨rfl,hall⟩|⟨i0,rfl,hi0,hbef,hat⟩
 ·have bLr:=aA1.mk hall;clear hall;go_wp2;go_ret;(have ef:(rows.filter λx => !aA5.pr k a0 es q x)=rows:=List.filter_eq_self.2 λx hx=>by rw[bLr.out x hx];rfl);rw[ef];refine⟨_,rfl,Kd.aFf (Cf.aQ3 (ok:=λk_=>ok k_∨k_=g) (f:=f) HBG.out (Or.inr rfl) HCAP.out.1 HCAP.out.2.2 HCAP.out.2.1 HI1.out.hc ?_) (λk_ h=>h),HI1.out.hb⟩;intro j x i hj;obtain⟨v,hv,hR⟩:=HI1.out.hH j x i hj;exact⟨v,hv,Kd.aBh hR λk_ h=>⟨Or.inl h.1,h.2⟩⟩
 ·have c0_:((i0:Int) == -1)=false:=beq_eq_false_iff_ne.2 (by omega);have c1_:decide ((i0:Int)=-1)=false:=zdN (by omega);obtain⟨jn,ej⟩:∃ x:Int,wrap64 ((i0:Int)+1)=x:=⟨_,rfl⟩;have ejw:IntKind.i64.wrap ((i0:Int)+1)=jn:=(aF0 _).trans ej;have HJN:=aA1.mk (show jn=((i0+1:Nat):Int) from by rw[<-ej];unfold wrap64;omega);have HI0:=aA1.mk hi0;have bLq:=aA1.mk hbef;have HAT:=aA1.mk (hat HI0.out);clear hi0 hbef hat;go_wp2;go_loopw [5,6,7] (λv5 v6 v7 wr=>∃ (i j:Nat) (cr:Array Value),v5 = .int .i64 (i:Int)/\v6 = .int .i64 (j:Int)/\aA1 (i<j/\j<=rows.length/\(Cf.aGl (aA5.pr k a0 es q) rows j).length=i)/\aA1 (cr.size=cap/\wr.heap[g]? = some (.cells cr 42 (0,0)))/\aA1 (Cf.aI5 wr w0.heap.size ok f cr (Cf.aGl (aA5.pr k a0 es q) rows j))/\aA1 (∀ t,t<rows.length->j<=t->cr[t]? = cur[t]?)/\aA1 (Below w0.heap.size w0 wr/\wr.heap[bg]? = some (.cells #[.int .i64 a0,.slice A0 es.length c0] 25 (0,0))/\wr.heap[bq]? = some (.cells #[.int .i64 q] 3 (0,0)))/\aA1 (Cf.aI5 wr w0.heap.size ok f cur rows.zipIdx)) (λ_ v _ _=>rows.length-(intOf v).toNat)
  case atStart =>
   (have hz:(Cf.aGl (aA5.pr k a0 es q) rows (i0+1))=rows.zipIdx.take i0:=by rw[Cf.aJl _ HI0.out,if_pos HAT.out,List.append_nil];exact Cf.aUb _ rows (Nat.le_of_lt HI0.out) bLq.out);refine⟨i0,i0+1,cur,rfl,by rw[HJN.out],⟨by omega,HI0.out,?_⟩,⟨HCAP.out.2.1,HI1.out.hc⟩,⟨?_⟩,⟨λt _ _=>rfl⟩,⟨HI1.out.hb,HI1.out.hg,HI1.out.hq⟩,⟨HI1.out.hH⟩⟩
   ·rw[hz,List.length_take,List.length_zipIdx];have:=HI0.out;omega
   ·rw[hz];exact Cf.aSg HI1.out.hH _
  case round =>
   clear HI1;obtain⟨i,j,cr,rfl,rfl,HIJ,HCR,HZ,HT,HB,HH⟩:=hrel;(have hij:(i:Int)<(j:Int):=by have:=HIJ.out;omega);(have hi0:(0:Int)<=(i:Int):=by omega);by_cases hlt:j<rows.length;rotate_left
   ·have d0:decide ((j:Int)<(rows.length:Int))=false:=zdN (by omega);have d1:decide (j<rows.length)=false:=zdN hlt;(have hjn:j=rows.length:=by have:=HIJ.out;omega);(have hin:i<rows.length:=by have:=HIJ.out;omega);(have hic:i<cap:=by have:=HCAP.out.1;omega);(have hil:i<=cap:=by omega);obtain⟨it,hit,hzt,bH0,hbt⟩:=info_parts aOn;have bKt:=aA5.bL6 (P:=Try.prog) 28 42 Try.underlying28 hit bH0 g rows.length cap i (Nat.le_of_lt hin) hic;have bKu:=aA5.bL7 (P:=Try.prog) 28 42 Try.underlying28 hit bH0 g rows.length cap i hil;(have hcl:∀ ty,(Builtin.clear_ #[28] ty #[.slice (some ⟨g,i,none⟩) (rows.length-i) (cap-i)]).run Try.prog wr = .ok (.tuple #[]) (wr.setCells g i (List.replicate (rows.length-i) (.slice none 0 0))):=λty=>Lib.run_clear_slice wr _ _ ty _ Try.underlying28 Try.zeroValue42 rfl rfl g i _ _ (by omega) (λt ht=>by rw[aAs HCR.out.2,Array.getElem?_eq_getElem (show i+t<cr.size by have:=HCR.out.1;have:=HCAP.out.1;omega)];rfl) (λt ht=>aA0 HCR.out.2 _));have HJ:=aA1.mk hjn;have HIN:=aA1.mk hin;clear hlt hit hzt bH0 hbt hjn;go_wp2;go_ret;obtain⟨cu2,hc2,hs2,ht2⟩:=aJy (List.replicate (rows.length-i) (Value.slice none 0 0)) i wr cr HCR.out.2 (by rw[List.length_replicate];have:=HCR.out.1;have:=HCAP.out.1;have:=HIN.out;omega);(have bE0:∀ k_,k_≠g->(wr.setCells g i (List.replicate (rows.length-i) (Value.slice none 0 0))).heap[k_]? = wr.heap[k_]?:=λk_ hk=>aJz _ i k_ hk);obtain⟨s1,s2,s3,s4⟩:=aIt g (List.replicate (rows.length-i) (Value.slice none 0 0)) i wr;(have hlen:(rows.filter λx => !aA5.pr k a0 es q x).length=i:=by rw[<-Cf.aOl,List.length_map,<-HJ.out];exact HIJ.out.2.2);have hZ:=HZ.out;rw[HJ.out]at hZ;have hK:=Cf.bDs (w:=wr.setCells g i (List.replicate (rows.length-i) (Value.slice none 0 0))) (base:=w0.heap.size) (g:=g) (cap:=cap) (ok:=λk_=>ok k_∨k_=g) (f:=f) (cur:=cu2) (rows:=rows) (p:=aA5.pr k a0 es q) HBG.out (Or.inr rfl) HCAP.out.1 HCAP.out.2.2 (hs2.trans HCR.out.1) hc2 ?hh
    case hh =>
     have hcells:∀ t,t<(Cf.aGl (aA5.pr k a0 es q) rows rows.length).length->cu2[t]? = cr[t]?:=by
      intro t ht;(have hti:t<i:=by have h_:=HIJ.out.2.2;rw[HJ.out]at h_;omega);rw[<-Array.getElem?_toList,<-Array.getElem?_toList,ht2,List.append_assoc,List.getElem?_append_left (by rw[List.length_take,Array.length_toList];have:=HCR.out.1;have:=HCAP.out.1;have:=HIN.out;omega),List.getElem?_take,if_pos hti]
     have h1:=Cf.aQ2 hZ hcells;(have h2:=Cf.aG9 (w1:=wr.setCells g i (List.replicate (rows.length-i) (Value.slice none 0 0))) h1 λk_ h _=>bE0 k_ (HOK.out k_ h));intro t x u ht;obtain⟨v,hv,hR⟩:=h2 t x u ht;exact⟨v,hv,Kd.aBh hR λk_ h=>⟨Or.inl h.1,h.2⟩⟩
    rw[hlen]at hK;refine⟨_,rfl,hK,⟨s1.trans HB.out.1.os,s2.trans HB.out.1.tape,s3.trans HB.out.1.output,by rw[s4];exact HB.out.1.size,λk_ hk=>(bE0 k_ (by have:=HBG.out;omega)).trans (HB.out.1.block k_ hk)⟩⟩
   have d0:decide ((j:Int)<(rows.length:Int))=true:=zdY (by omega);have d1:decide (j<rows.length)=true:=zdY hlt;(have p1:(0:Int)<=(j:Int):=by omega);(have p2:(j:Int)<(rows.length:Int):=by omega);(have p3:(i:Int)<(rows.length:Int):=by omega);obtain⟨v,hv,hR⟩:=HH.out j rows[j] j (by rw[List.getElem?_zipIdx,zdH hlt,Nat.zero_add];rfl);obtain⟨Ai,ci,ei⟩:=Kd.aBe hR;subst ei;have hcell:wr.cell? ⟨g,j,none⟩=some (.slice Ai rows[j].length ci):=(aAs HCR.out.2 j).trans ((HT.out j hlt (Nat.le_refl _)).trans hv);obtain⟨r,hr⟩:=Option.isSome_iff_exists.1 (HP.out _ (List.getElem_mem hlt));have HRR:=aA1.mk hr;have HRi:=aA1.mk (Kd.aAc hR);have HRX:=aA1.mk hR;have HLT:=aA1.mk hlt;clear hv hR hr;generalize hx:rows[j]'HLT.out=x at hcell HRR HRi HRX;have HXX:=aA1.mk hx;clear hx hlt;(go_wp2_with fail);refine(aA5.clo k a0 q es A0 c0 bg bq _ (Kd.aDj HE.out HB.out.1) HC.out HB.out.2.1 HB.out.2.2 _ _ x r HRi.out.2.2 HRi.out.2.1 HRR.out).mono ?_;rintro e w2 ⟨rfl,hb⟩;have bBv:=aA1.mk (show cr.size=cap/\w2.heap[g]? = some (.cells cr 42 (0,0)) from ⟨HCR.out.1,aA4 HCR.out.2 hb⟩);have HZ2:=aA1.mk (Cf.aG9 HZ.out λk_ _ hlt=>hb.block k_ hlt);have HH2:=aA1.mk (Cf.aG9 HH.out λk_ _ hlt=>hb.block k_ hlt);have HB2:=aA1.mk (show Below w0.heap.size w0 w2/\w2.heap[bg]? = some (.cells #[.int .i64 a0,.slice A0 es.length c0] 25 (0,0))/\w2.heap[bq]? = some (.cells #[.int .i64 q] 3 (0,0)) from ⟨aA3 HB.out.1 hb,aA4 HB.out.2.1 hb,aA4 HB.out.2.2 hb⟩);have bLl:=aA1.mk (Kd.aBp HRX.out hb);clear hb hcell HCR HZ HH HB HRX
   cases hp:aA5.pr k a0 es q x with
   | true =>
    have HPP:=aA1.mk hp;clear hp;go_wp2;go_roundw
    case rel =>
     (have hz:(Cf.aGl (aA5.pr k a0 es q) rows (j+1))=(Cf.aGl (aA5.pr k a0 es q) rows j):=by rw[Cf.aJl _ HLT.out,HXX.out,if_pos HPP.out,List.append_nil]);refine⟨i,j+1,cr,rfl,by go_num,⟨by have:=HIJ.out;omega,HLT.out,by rw[hz];exact HIJ.out.2.2⟩,bBv,⟨by rw[hz];exact HZ2.out⟩,⟨λt h1 h2=>HT.out t h1 (by omega)⟩,HB2,HH2⟩
    case measure =>
     have:=HLT.out;(simp[intOf]);omega
   | false =>
    have HPP:=aA1.mk hp;clear hp;obtain⟨old,hold⟩:∃ old,cr[i]? = some old:=⟨_,Array.getElem?_eq_getElem (show i<cr.size by have:=HIJ.out;have:=bBv.out.1;have:=HCAP.out.1;omega)⟩;have hzi:w2.cell? ⟨g,i,none⟩=some old:=(aAs bBv.out.2 i).trans hold;have hfz:=aA0 bBv.out.2 i;clear hold;go_wp2;go_roundw
    case rel =>
     clear hzi hfz;(have hz:(Cf.aGl (aA5.pr k a0 es q) rows (j+1))=(Cf.aGl (aA5.pr k a0 es q) rows j)++[(x,j)]:=by rw[Cf.aJl _ HLT.out,HXX.out,if_neg (by rw[HPP.out];simp)]);(have hset:∀ k_,ok k_->k_<w2.heap.size->(w2.setCell ⟨g,i,none⟩ (.slice Ai x.length ci)).heap[k_]? = w2.heap[k_]?:=λk_ h _=>Below.heap_setCell w2 _ _ k_ (HOK.out k_ h));refine⟨i+1,j+1,cr.setIfInBounds i (.slice Ai x.length ci),by go_num,by go_num,⟨by have:=HIJ.out;omega,HLT.out,by rw[hz,List.length_append,HIJ.out.2.2];rfl⟩,⟨by rw[Array.size_setIfInBounds];exact bBv.out.1,aLq bBv.out.2 i _⟩,⟨?_⟩,⟨λt h1 h2=>?_⟩,⟨aAi HB2.out.1 HBG.out,aCb HB2.out.2.1 HNE.out.1 _,aCb HB2.out.2.2 HNE.out.2 _⟩,⟨Cf.aG9 HH2.out hset⟩⟩
     ·rw[hz];have h1:=Cf.aSh HZ2.out (v:=.slice Ai x.length ci) (x:=x) (t:=j) (by have:=HIJ.out;have:=bBv.out.1;have:=HCAP.out.1;omega) bLl.out;rw[HIJ.out.2.2]at h1;exact Cf.aG9 h1 hset
     ·rw[Array.getElem?_setIfInBounds_ne (by have:=HIJ.out;omega)];exact HT.out t h1 (by omega)
    case measure =>
     have:=HLT.out;(simp[intOf]);omega
def aA5.cnt (k:Nat) (a0:Int) (es:List S73) (q:Int) (v:Nat):Nat:=if(v:Int)=q then 1 else((aAy.f k a0 es (v:Int)).getD 0).toNat
abbrev aA5.ok0 (k:Nat) (a0:Int) (es:List S73) (q:Int):Prop:=(0<=a0/\a0<=6)/\∀ v,v<a0.toNat->(aAy.f k a0 es (v:Int)).isSome=true/\0<=(aAy.f k a0 es (v:Int)).getD 0/\(aAy.f k a0 es (v:Int)).getD 0<=24
abbrev aA5.ok1 (k:Nat) (a0:Int) (es:List S73) (q:Int):Prop:=∀ x∈Cf.aGk (aA5.cnt k a0 es q) a0.toNat,(aB0.f k a0 es x q).isSome=true
def aA5.f (k:Nat) (a0:Int) (es:List S73) (q:Int):Option (List (List Int)):=if aA5.ok0 k a0 es q/\aA5.ok1 k a0 es q/\0<(Cf.aGk (aA5.cnt k a0 es q) a0.toNat).length then some ((Cf.aGk (aA5.cnt k a0 es q) a0.toNat).filter λx => !aA5.pr k a0 es q x) else none
theorem aA5.aYf (k:Nat) {a0:Int} {es:List S73} {v:Int} (h:(aAy.f k a0 es v).isSome=true):aAy.f (k+1) a0 es v=aAy.f k a0 es v:=by
 obtain⟨b,hb⟩:=Option.isSome_iff_exists.1 h;rw[hb,aAy.mono _ _ _ k _ hb]
theorem aA5.aV3 (k:Nat) {a0 q:Int} {es:List S73} {x:List Int} (h:(aB0.f k a0 es x q).isSome=true):aB0.f (k+1) a0 es x q=aB0.f k a0 es x q:=by
 obtain⟨b,hb⟩:=Option.isSome_iff_exists.1 h;rw[hb,aB0.mono _ _ _ _ k _ hb]
theorem aA5.aHn {c d:Nat->Nat}:∀ {n:Nat},(∀ v,v<n->c v=d v)->Cf.aGk c n=Cf.aGk d n
 | 0,_=>rfl
 | n+1,h=>by rw[Cf.aGk,Cf.aGk,aA5.aHn λv hv=>h v (by omega),h n (by omega)]
theorem aA5.mono:∀ a0 a1 a2 k,LeO (aA5.f k a0 a1 a2) (aA5.f (k+1) a0 a1 a2):=by
 intro a0 es q k r h;unfold aA5.f at h ⊢;(split at h);(case isFalse=>cases h);rename_i hc;(have e1:Cf.aGk (aA5.cnt (k+1) a0 es q) a0.toNat=Cf.aGk (aA5.cnt k a0 es q) a0.toNat:=aA5.aHn λv hv=>by unfold aA5.cnt;rw[aA5.aYf k (hc.1.2 v hv).1]);have h0:aA5.ok0 (k+1) a0 es q:=⟨hc.1.1,λv hv=>by rw[aA5.aYf k (hc.1.2 v hv).1];exact hc.1.2 v hv⟩;(have h1:aA5.ok1 (k+1) a0 es q:=by unfold aA5.ok1;rw[e1];exact λx hx=>by rw[aA5.aV3 k (hc.2.1 x hx)];exact hc.2.1 x hx);rw[if_pos ⟨h0,h1,by rw[e1];exact hc.2.2⟩,<-h,e1];(congr 1);(refine List.filter_congr λx hx=>?_);unfold aA5.pr;rw[aA5.aV3 k (hc.2.1 x hx)]
theorem aA5.calls (k:Nat) (aE:Int) (aQ:Option Addr) (aG:Nat) (aC:List S73) (a1:Int) (r:List (List Int)) (w:World) (hr0_1:Kd.C k73 w aQ aC.length aC) (hc0_1:aC.length<=aG) (h:aA5.f k aE aC a1=some r) :
  Calls Try.prog 74 #[.agg #[.int .i64 aE,.slice aQ aC.length aG],.int .i64 a1] w λe w'=>∃ v0_:Value,e = .returned (v0_)/\Kd.S (Kd.slice 3 (Kd.int .i64)) 42 w' w.heap.size (λ_=>True) v0_ r/\Below w.heap.size w w':=by
 have aIh:=Try.underlying25;have HE:=zK_ hr0_1;have HC:=zK_ hc0_1;clear hr0_1 hc0_1;unfold aA5.f at h;(split at h);(case isFalse=>cases h);rename_i hc;obtain rfl:=zdI h;clear h;obtain⟨⟨⟨hn0,hn6⟩,hv⟩,hbn,hpos⟩:=hc;obtain⟨n,rfl⟩:=Int.eq_ofNat_of_zero_le hn0;unfold aA5.ok1 at hbn;rw[Int.toNat_natCast]at hv hbn hpos ⊢;have bLn:=zK_ hpos;clear hpos;have HV:=zK_ hv;have HBN:=zK_ hbn;have HN:=zK_ (show n<=6 from by omega);(have hcb:∀ u,u<n->aA5.cnt k (n:Int) aC a1 u<=24:=λu hu=>by unfold aA5.cnt;split;omega;have:=(hv u hu).2.2;omega);(have hln:∀ v,v<=n->(Cf.aGk (aA5.cnt k (n:Int) aC a1) v).length<=191102976:=λv hv=>Nat.le_trans (Cf.aRh (b:=24) λu hu=>hcb u (by omega)) (Nat.pow_le_pow_right (by omega) (show v<=6 by omega)));(have hrow:∀ v x,x∈Cf.aGk (aA5.cnt k (n:Int) aC a1) v->x.length=v:=λv x hx=>(Cf.aG6 hx).1);have HCB:=zK_ hcb;have HLN:=zK_ hln;have bLm:=zK_ hrow;(have hmf:∀ (fn:Fn) (first cap:Array Value) (w:World),(Instr.makeFunc fn first cap).run Try.prog w = .ok (.func fn first cap) w:=λ_ _ _ _=>rfl);have hnb:(n:Int)<=6:=hn6;clear hn0 hn6 hv hbn hcb hln hrow;go_enter Try.func74,Try.ntmps74;(go_wp2_with (first|((with_reducible refine aAw (N:=2) rfl ?_);refine aAq ?hg (N:=2) ?hd (cs:=#[.int .i64 (n:Int),.slice aQ aC.length aG]) (t:=25) ?hr ?_;(case hd=>rfl);(case hg=>rfl);(case hr=>exact aDq);intro bg hg w1 hbox hb;have BG1:=zK_ hbox;have HGG:=zK_ hg;have HB1:=zK_ hb;clear hg hbox hb)|((with_reducible refine aAw (N:=3) rfl ?_);refine aAq ?hg (N:=3) ?hd (cs:=#[.int .i64 a1]) (t:=3) ?hr ?_;(case hd=>rfl);(case hg=>rfl);(case hr=>exact aDq);intro bq hg w2 hbox hb;have BQ2:=zK_ hbox;have HQG:=zK_ hg;have BG2:=zK_ (aA4 BG1.out hb);have HB2:=zK_ (aA3 HB1.out hb);clear hg hbox hb)|((with_reducible refine aAw (N:=12) rfl ?_);refine Kd.bF2 (w0:=w2) (Kd.slice 3 (Kd.int .i64)) w2.heap.size 42 ?hg (N:=12) ?hd (xs:=([[]]:List (List Int))) (inner:=[.slice none 0 0]) (ok:=λ_=>True) (λj k=>j=0) ?hr rfl ?hp (λi j k hi hj=>hi.trans hj.symm) (λ_ _ _=>trivial) trivial (Below.refl _ _) (Nat.le_refl _) (by simp) ?_;(case hd=>rfl);(case hg=>rfl);(case hr=>exact aDq);(case hp=>exact λj x hx=>match j,hx with|0,rfl=>Kd.aVl (Kd.aSr _ _ _ _ _)|_+1,h_=>absurd h_ (by simp));intro v12 w3 ho hb hg_ aGn;have HS3:=zK_ ho;have HB3:=zK_ hb;clear ho hb hg_ aGn)));have bJ0:=zK_ (show bg<w2.heap.size/\bq<w2.heap.size from ⟨aCi BG2.out,aCi BQ2.out⟩);(go_loopw [5,6] (λv5 v6 wr=>∃ v:Nat,v6 = .int .i64 (v:Int)/\aA1 (v<=n)/\aA1 (Below w2.heap.size w2 wr)/\aA1 (Kd.S (Kd.slice 3 (Kd.int .i64)) 42 wr w2.heap.size (λ_=>True) v5 (Cf.aGk (aA5.cnt k (n:Int) aC a1) v))) (λ_ v _=>n-(intOf v).toNat));case atStart=>exact⟨0,rfl,⟨Nat.zero_le _⟩,HB3,HS3⟩
 case round =>
  clear HS3 HB3;obtain⟨v,rfl,HVN,HBr,HSr⟩:=hrel;have hz0:wr.cell? ⟨bg,0,none⟩=some (.int .i64 (n:Int)):=(aAs (aA4 BG2.out HBr.out) 0).trans rfl;have hz1:wr.cell? ⟨bg,1,none⟩=some (.slice aQ aC.length aG):=(aAs (aA4 BG2.out HBr.out) 1).trans rfl;(have hvb:(v:Int)<=6:=by have:=HVN.out;omega);by_cases hvn:v<n;rotate_left
  ·have c0_:decide ((v:Int)<(n:Int))=false:=zdN (by omega);have c1_:decide (v<n)=false:=zdN hvn;(have hv:v=n:=by have:=HVN.out;omega);subst hv;clear hvn;obtain⟨g,cap,eg,_⟩:=Kd.aVi HSr.out bLn.out;subst eg;obtain⟨f,cur,hbg,_,_,hncap,hcm,hcs,hc,hH⟩:=Cf.aVg HSr.out;have hdel:=aA5.del k (v:Int) a1 aC aQ aG bg bq g cap _ f cur _ w2 wr (Kd.aDj HE.out HB2.out) HC.out ⟨HBr.out,aA4 BG2.out HBr.out,aA4 BQ2.out HBr.out,hc,hH⟩ (Nat.le_trans (HLN.out v (Nat.le_refl _)) (by omega)) hncap HBN.out hcs hcm hbg (λk_ h=>h.2) ⟨by have:=bJ0.out;omega,by have:=bJ0.out;omega⟩;have bLp:=zK_ hdel;clear hdel hH hc hcs hcm hncap hbg;(go_wp2_with fail);refine bLp.out.mono ?_;rintro e w9 ⟨v9,rfl,hS,hb⟩;obtain⟨A9,c9,e9⟩:=Kd.aJq hS;subst e9;have HS9:=zK_ hS;have HB9:=zK_ hb;clear hS hb hz0 hz1;go_wp2;go_ret;exact⟨_,rfl,Kd.aFf (Kd.aNn HS9.out HB2.out.size) (λ_ _=>trivial),aA3 HB2.out HB9.out⟩
  have c0_:decide ((v:Int)<(n:Int))=true:=zdY (by omega);have c1_:decide (v<n)=true:=zdY hvn;obtain⟨L,hL⟩:∃ L,Cf.aGk (aA5.cnt k (n:Int) aC a1) v=L:=⟨_,rfl⟩;obtain⟨A5,c5,e5⟩:=Kd.aJq HSr.out;subst e5;have hS:=HSr.out;rw[hL]at hS;have HLn:=zK_ (show L.length<=191102976 from by rw[<-hL];exact HLN.out v (by omega));have HLR:=zK_ (show ∀ x∈L,x.length=v from λx hx=>bLm.out v x (by rw[hL];exact hx));have HS:=zK_ hS;have HLL:=zK_ hL;rw[hL];clear hS HSr;obtain⟨hm0,hm1,hm2⟩:=HV.out v hvn;obtain⟨m,hm⟩:=Option.isSome_iff_exists.1 hm0;rw[hm]at hm1 hm2;simp only[Option.getD_some]at hm1 hm2;have HM:=zK_ hm;(have hcn:aA5.cnt k (n:Int) aC a1 v=if(v:Int)=a1 then 1 else m.toNat:=by unfold aA5.cnt;rw[hm];rfl);obtain⟨m1,em⟩:∃ x:Int,wrap64 (m-1)=x:=⟨_,rfl⟩;have emw:IntKind.i64.wrap (m-1)=m1:=(aF0 _).trans em;have HM1:=zK_ (show m1=m-1/\0<=m/\m<=24 from ⟨by rw[<-em];unfold wrap64;omega,hm1,hm2⟩);have bCi:=zK_ hvn;clear hm hm0 hm1 hm2 hL hvn;(go_wp2_with fail);refine(aAy.calls k (n:Int) _ _ aC (v:Int) m _ (Kd.aDj (Kd.aDj HE.out HB2.out) HBr.out) HC.out HM.out).mono ?_;rintro e w5 ⟨rfl,hb⟩;have HB5:=zK_ (aA3 HBr.out hb);have HS5:=zK_ (Kd.aFf (Kd.aHq (Kd.aFj HS.out hb)) (ok':=λk_=>k_<w5.heap.size) λk_ hk=>hk.2.2.1);clear hb hz0 hz1 HS HBr;have hq0:w5.cell? ⟨bq,0,none⟩=some (.int .i64 a1):=(aAs (aA4 BQ2.out HB5.out) 0).trans rfl;by_cases hvq:(v:Int)=a1
  ·have c4_:((v:Int)==a1)=true:=beq_iff_eq.2 hvq;have bE1:aA5.cnt k (n:Int) aC a1 v=aA5.cnt k (n:Int) aC a1 v/\aA5.cnt k (n:Int) aC a1 v=1:=⟨rfl,by rw[hcn,if_pos hvq]⟩;have HCN:=zK_ (show aA5.cnt k (n:Int) aC a1 v=1/\(1:Nat)<=24 from ⟨bE1.2,by omega⟩);clear hcn bE1 hvq;(try go_wp2);(go_loopw [8,28] (λv8 v28 wr=>∃ i:Nat,v28 = .int .i64 (i:Int)/\aA1 (i<=L.length/\w5.heap.size<=wr.heap.size)/\aA1 (Below w2.heap.size w2 wr)/\aA1 (Kd.S (Kd.slice 3 (Kd.int .i64)) 42 wr w2.heap.size (λk_=>k_<w5.heap.size) (.slice A5 L.length c5) L)/\aA1 (Kd.S (Kd.slice 3 (Kd.int .i64)) 42 wr w2.heap.size (λk_=>w5.heap.size<=k_) v8 (Cf.aPo 1 L i))) (λ_ v _=>L.length-(intOf v).toNat));case atStart=>exact⟨0,rfl,⟨Nat.zero_le _,Nat.le_refl _⟩,HB5,HS5,⟨Kd.aNm _ _ _ _ _⟩⟩
   case round =>
    clear HS5 hq0;obtain⟨i,rfl,HI,HBr,HLr,HSn⟩:=hrel;by_cases hlt:i<L.length;rotate_left
    ·have c2_:decide ((i:Int)<(L.length:Int))=false:=zdN (by omega);have c3_:decide (i<L.length)=false:=zdN hlt;(have hi:i=L.length:=by have:=HI.out;omega);subst hi;clear hlt;go_wp2;go_roundw
     case rel =>
      refine⟨v+1,by go_num,⟨bCi.out⟩,HBr,⟨?_⟩⟩;have h1:=Cf.aQx (aA5.cnt k (n:Int) aC a1) v;rw[HLL.out,HCN.out.1]at h1;rw[<-h1];exact Kd.aFf HSn.out λ_ _=>trivial
     case measure =>
      have:=bCi.out;(simp[intOf]);omega
    have c2_:decide ((i:Int)<(L.length:Int))=true:=zdY (by omega);have c3_:decide (i<L.length)=true:=zdY hlt;obtain⟨x,hxi⟩:∃ x,L[i]? = some x:=⟨_,zdH hlt⟩;(have hx:aDo L (i:Int)=x:=by unfold aDo;rw[Int.toNat_natCast,zdG,hxi];rfl);(have p1:(0:Int)<=(i:Int):=by omega);(have p2:(i:Int)<(L.length:Int):=by omega);obtain⟨gL,_,_,eg,_,_,_⟩:=aSq (Kd.aKn HLr.out).2.2 (i:Int) p1 p2;subst eg;obtain⟨cc,_,hM,hcell⟩:=Kd.bF4 HLr.out ([]:List Int) (i:Int) p1 p2;obtain⟨vx,hvx,hRx⟩:=hM;subst hvx;replace hcell:=hcell 0 vx rfl;rw[show (L.getD ((i:Int)).toNat [])=x from hx]at hRx;(replace hRx:=Kd.aBh hRx (ok':=λk_=>k_<w5.heap.size) λk_ hk=>hk.1);obtain⟨Ai,ci,ei⟩:=Kd.aBe hRx;subst ei;rw[Int.toNat_natCast,show i*(Kd.slice 3 (Kd.int .i64)).sz+0=i from Nat.mul_one i]at hcell;have HRi:=zK_ hRx;clear hRx;(have hib:(i:Int)<=191102976:=by have:=HLn.out;omega);have HLT:=zK_ hlt;have HXI:=zK_ hxi;have HXL:=zK_ (show x.length=v from HLR.out x (List.mem_of_getElem? hxi));(have hxl:(x.length:Int)<=6:=by have:=HXL.out;have:=bCi.out;have:=HN.out;omega);have CP:=zK_ (show aCk.f x=some x from by unfold aCk.f;rw[if_pos (by simp only[List.length_nil];omega)];rfl);clear hxi hlt hx;(try go_wp2);(go_loopw [8,11] (λv8 v11 wi=>∃ j:Nat,v11 = .int .i64 (j:Int)/\aA1 (j<=1/\w5.heap.size<=wi.heap.size)/\aA1 (Below w2.heap.size w2 wi)/\aA1 (Kd.S (Kd.slice 3 (Kd.int .i64)) 42 wi w2.heap.size (λk_=>k_<w5.heap.size) (.slice (some gL) L.length c5) L)/\aA1 (Kd.S (Kd.slice 3 (Kd.int .i64)) 42 wi w2.heap.size (λk_=>w5.heap.size<=k_) v8 (Cf.aPo 1 L i++Cf.aLi j x))/\aA1 (Kd.R (Kd.int .i64) 3 wi w2.heap.size (λk_=>k_<w5.heap.size) (.slice Ai x.length ci) x)) (λ_ v _=>1-(intOf v).toNat));case atStart=>exact⟨0,rfl,⟨Nat.zero_le _,HI.out.2⟩,HBr,HLr,⟨by rw[Cf.aOr,List.append_nil];exact HSn.out⟩,HRi⟩
    case round =>
     obtain⟨j,rfl,HJ,HBi,HLi,HSi,HRj⟩:=hrel;(have hjb:(j:Int)<=24:=by have:=HJ.out;have:=HCN.out;omega);by_cases hj:j<1
     ·(obtain rfl:j=0:=by omega);have HJN:=zK_ hj;clear hj;have HLA:=zK_ (show (Cf.aPo 1 L i++Cf.aLi 0 x).length<=5000000000 from by rw[List.length_append,Cf.aNg];have a1_:=Cf.aQw 1 L i;have a2_:=HCN.out;have a3_:=HJ.out;have a4_:=Nat.mul_le_mul HLn.out (show 1<=24 by omega);omega);(go_wp2_with (first|((with_reducible refine aAa (f:=43) rfl ?_);refine aBg (some 39) rfl rfl Try.func43 (by kernel_rfl) rfl #[.slice Ai x.length ci] rfl (by(try simp only[List.map_toArray,List.map_cons,List.map_nil]);first|done|rfl) ?_;refine(aCk.calls _ _ x x _ (Kd.aAc HRj.out).2.2 (Kd.aAc HRj.out).2.1 CP.out).mono ?_;rintro e wA ⟨vA,rfl,hoA,hbA⟩;refine⟨_,rfl,?_⟩;have HOA:=zK_ hoA;have HBA:=zK_ hbA;clear hoA hbA)|((with_reducible refine aBk (b:=.append) (xs:=#[.tmp 39,.tmp 41]) rfl ?_);at_builtin;refine Kd.aD3 (Kd.int .i64) (w0:=wr) wr.heap.size rfl (.tmp 39) (.tmp 41) 42 3 (.int .i64 0) 8 rfl Try.underlying42 info3 rfl (by decide) (by omega) vA x (0:Int) [.int .i64 (0:Int)] (λ_=>True) (λ_=>False) rfl rfl rfl (λ_ hk=>hk.elim) (λ_ _=>trivial) HOA.out HBA.out (aAj HBA.out) (by have:=hxl;omega) ?_;intro vC wC ho hb hg hat;obtain⟨Ad,cd,ed⟩:=Kd.aBe ho;subst ed;rw[show (x++[(0:Int)]).length=x.length+1 from List.length_append]at ho;have HD:=zK_ (Kd.aBh (Kd.aFa ho) (ok':=λk_=>wr.heap.size<=k_) λk_ hk=>hk.2.1);have HBC:=zK_ hb;clear ho hb hg hat)|((with_reducible refine aBk (b:=.append) (xs:=#[.tmp 37,.tmp 43]) rfl ?_);at_builtin;refine Kd.aKo (Kd.slice 3 (Kd.int .i64)) (w0:=w2) w2.heap.size rfl (.tmp 37) (.tmp 43) 28 42 (.slice none 0 0) 24 rfl Try.underlying28 aOn rfl (by decide) (by omega) u8 (Cf.aPo 1 L i++Cf.aLi 0 x) (x++[(0:Int)]) [.slice Ad (x.length+1) cd] (λk_=>w5.heap.size<=k_) (λk_=>wr.heap.size<=k_) rfl rfl (Kd.aVl (Kd.aCm HD.out (aAj HBi.out))) (λk_ hk=>⟨by have:=HJ.out;omega,λe=>by have:=Kd.bHi HSi.out k_ e.symm;omega⟩) (λk_ hk=>by have:=HJ.out;have:=HBC.out.size;omega) (Kd.aFf (Kd.aFj (Kd.aHq HSi.out) HBC.out) λk_ hk=>⟨hk.1,λh=>by have:=hk.2.2.1;omega⟩) (aA3 HBi.out HBC.out) (aAj (aA3 HBi.out HBC.out)) (by have:=HLA.out;omega) ?_;intro vE wE ho hb hg hat;have HOE:=zK_ ho;have HBE:=zK_ hb;have HLE:=zK_ (Kd.aVh (Kd.aFj (Kd.aHq HLi.out) HBC.out) hg λk_ hk e=>by have:=HSi.out.choose_spec.1 k_ e.symm;have:=hk.1;omega);have HZE:=zK_ hg.size;have HRE:=zK_ (Kd.aHr (Kd.aBp HRj.out HBC.out) λk_ hk hlt=>hg.block k_ hlt λe=>by have:=HSi.out.choose_spec.1 k_ e.symm;omega);clear ho hb hg hat)));go_roundw
      case rel =>
       refine⟨0+1,by go_num,⟨by have:=HJN.out;omega,by have:=HBC.out.size;have:=HZE.out;have:=HJ.out;omega⟩,HBE,⟨Kd.aFf HLE.out λk_ hk=>hk.1⟩,⟨?_⟩,HRE⟩;rw[Cf.aOs,<-List.append_assoc];exact HOE.out
      case measure =>
       have:=HJN.out;first|(simp[intOf];done)|(simp[intOf];omega)
     have hj2:=HJ.out;(have hjn:j=1:=by have:=HJ.out;omega);subst hjn;clear hj;go_wp2;go_roundw
     case rel =>
      refine⟨i+1,by go_num,⟨by have:=HLT.out;omega,HJ.out.2⟩,HBi,HLi,⟨?_⟩⟩;rw[Cf.aOa _ HXI.out];exact HSi.out
     case measure =>
      have:=HLT.out;(simp[intOf]);omega
  have c4_:((v:Int)==a1)=false:=beq_eq_false_iff_ne.2 hvq;have bE1:aA5.cnt k (n:Int) aC a1 v=aA5.cnt k (n:Int) aC a1 v/\((aA5.cnt k (n:Int) aC a1 v:Nat):Int)=m1+1/\m1<=23:=⟨rfl,by rw[hcn,if_neg hvq];have:=HM1.out;omega,by have:=HM1.out;omega⟩;have bHo:=zK_ bE1;obtain⟨cn,bIc⟩:∃ cn,aA5.cnt k (n:Int) aC a1 v=cn:=⟨_,rfl⟩;have HCN:=zK_ (show aA5.cnt k (n:Int) aC a1 v=cn/\cn<=24/\(cn:Int)=m1+1 from ⟨bIc,by have:=bHo.out.2;omega,by have:=bHo.out.2;omega⟩);clear hcn bE1 hvq bIc bHo;(try go_wp2);(go_loopw [8,28] (λv8 v28 wr=>∃ i:Nat,v28 = .int .i64 (i:Int)/\aA1 (i<=L.length/\w5.heap.size<=wr.heap.size)/\aA1 (Below w2.heap.size w2 wr)/\aA1 (Kd.S (Kd.slice 3 (Kd.int .i64)) 42 wr w2.heap.size (λk_=>k_<w5.heap.size) (.slice A5 L.length c5) L)/\aA1 (Kd.S (Kd.slice 3 (Kd.int .i64)) 42 wr w2.heap.size (λk_=>w5.heap.size<=k_) v8 (Cf.aPo cn L i))) (λ_ v _=>L.length-(intOf v).toNat));case atStart=>exact⟨0,rfl,⟨Nat.zero_le _,Nat.le_refl _⟩,HB5,HS5,⟨Kd.aNm _ _ _ _ _⟩⟩
  case round =>
   clear HS5 hq0;obtain⟨i,rfl,HI,HBr,HLr,HSn⟩:=hrel;by_cases hlt:i<L.length;rotate_left
   ·have c2_:decide ((i:Int)<(L.length:Int))=false:=zdN (by omega);have c3_:decide (i<L.length)=false:=zdN hlt;(have hi:i=L.length:=by have:=HI.out;omega);subst hi;clear hlt;go_wp2;go_roundw
    case rel =>
     refine⟨v+1,by go_num,⟨bCi.out⟩,HBr,⟨?_⟩⟩;have h1:=Cf.aQx (aA5.cnt k (n:Int) aC a1) v;rw[HLL.out,HCN.out.1]at h1;rw[<-h1];exact Kd.aFf HSn.out λ_ _=>trivial
    case measure =>
     have:=bCi.out;(simp[intOf]);omega
   have c2_:decide ((i:Int)<(L.length:Int))=true:=zdY (by omega);have c3_:decide (i<L.length)=true:=zdY hlt;obtain⟨x,hxi⟩:∃ x,L[i]? = some x:=⟨_,zdH hlt⟩;(have hx:aDo L (i:Int)=x:=by unfold aDo;rw[Int.toNat_natCast,zdG,hxi];rfl);(have p1:(0:Int)<=(i:Int):=by omega);(have p2:(i:Int)<(L.length:Int):=by omega);obtain⟨gL,_,_,eg,_,_,_⟩:=aSq (Kd.aKn HLr.out).2.2 (i:Int) p1 p2;subst eg;obtain⟨cc,_,hM,hcell⟩:=Kd.bF4 HLr.out ([]:List Int) (i:Int) p1 p2;obtain⟨vx,hvx,hRx⟩:=hM;subst hvx;replace hcell:=hcell 0 vx rfl;rw[show (L.getD ((i:Int)).toNat [])=x from hx]at hRx;(replace hRx:=Kd.aBh hRx (ok':=λk_=>k_<w5.heap.size) λk_ hk=>hk.1);obtain⟨Ai,ci,ei⟩:=Kd.aBe hRx;subst ei;rw[Int.toNat_natCast,show i*(Kd.slice 3 (Kd.int .i64)).sz+0=i from Nat.mul_one i]at hcell;have HRi:=zK_ hRx;clear hRx;(have hib:(i:Int)<=191102976:=by have:=HLn.out;omega);have HLT:=zK_ hlt;have HXI:=zK_ hxi;have HXL:=zK_ (show x.length=v from HLR.out x (List.mem_of_getElem? hxi));(have hxl:(x.length:Int)<=6:=by have:=HXL.out;have:=bCi.out;have:=HN.out;omega);have CP:=zK_ (show aCk.f x=some x from by unfold aCk.f;rw[if_pos (by simp only[List.length_nil];omega)];rfl);clear hxi hlt hx;(try go_wp2);(go_loopw [8,11] (λv8 v11 wi=>∃ j:Nat,v11 = .int .i64 (j:Int)/\aA1 (j<=cn/\w5.heap.size<=wi.heap.size)/\aA1 (Below w2.heap.size w2 wi)/\aA1 (Kd.S (Kd.slice 3 (Kd.int .i64)) 42 wi w2.heap.size (λk_=>k_<w5.heap.size) (.slice (some gL) L.length c5) L)/\aA1 (Kd.S (Kd.slice 3 (Kd.int .i64)) 42 wi w2.heap.size (λk_=>w5.heap.size<=k_) v8 (Cf.aPo cn L i++Cf.aLi j x))/\aA1 (Kd.R (Kd.int .i64) 3 wi w2.heap.size (λk_=>k_<w5.heap.size) (.slice Ai x.length ci) x)) (λ_ v _=>cn-(intOf v).toNat));case atStart=>exact⟨0,rfl,⟨Nat.zero_le _,HI.out.2⟩,HBr,HLr,⟨by rw[Cf.aOr,List.append_nil];exact HSn.out⟩,HRi⟩
   case round =>
    obtain⟨j,rfl,HJ,HBi,HLi,HSi,HRj⟩:=hrel;(have hjb:(j:Int)<=24:=by have:=HJ.out;have:=HCN.out;omega);by_cases hj:j<cn
    ·have d0:decide ((j:Int)<=m1)=true:=zdY (by have:=HCN.out;omega);have HJN:=zK_ hj;clear hj;have HLA:=zK_ (show (Cf.aPo cn L i++Cf.aLi j x).length<=5000000000 from by rw[List.length_append,Cf.aNg];have a1_:=Cf.aQw cn L i;have a2_:=HCN.out;have a3_:=HJ.out;have a4_:=Nat.mul_le_mul HLn.out (show cn<=24 by omega);omega);(go_wp2_with (first|((with_reducible refine aAa (f:=43) rfl ?_);refine aBg (some 39) rfl rfl Try.func43 (by kernel_rfl) rfl #[.slice Ai x.length ci] rfl (by(try simp only[List.map_toArray,List.map_cons,List.map_nil]);first|done|rfl) ?_;refine(aCk.calls _ _ x x _ (Kd.aAc HRj.out).2.2 (Kd.aAc HRj.out).2.1 CP.out).mono ?_;rintro e wA ⟨vA,rfl,hoA,hbA⟩;refine⟨_,rfl,?_⟩;have HOA:=zK_ hoA;have HBA:=zK_ hbA;clear hoA hbA)|((with_reducible refine aBk (b:=.append) (xs:=#[.tmp 39,.tmp 41]) rfl ?_);at_builtin;refine Kd.aD3 (Kd.int .i64) (w0:=wr) wr.heap.size rfl (.tmp 39) (.tmp 41) 42 3 (.int .i64 0) 8 rfl Try.underlying42 info3 rfl (by decide) (by omega) vA x (j:Int) [.int .i64 (j:Int)] (λ_=>True) (λ_=>False) rfl rfl rfl (λ_ hk=>hk.elim) (λ_ _=>trivial) HOA.out HBA.out (aAj HBA.out) (by have:=hxl;omega) ?_;intro vC wC ho hb hg hat;obtain⟨Ad,cd,ed⟩:=Kd.aBe ho;subst ed;rw[show (x++[(j:Int)]).length=x.length+1 from List.length_append]at ho;have HD:=zK_ (Kd.aBh (Kd.aFa ho) (ok':=λk_=>wr.heap.size<=k_) λk_ hk=>hk.2.1);have HBC:=zK_ hb;clear ho hb hg hat)|((with_reducible refine aBk (b:=.append) (xs:=#[.tmp 37,.tmp 43]) rfl ?_);at_builtin;refine Kd.aKo (Kd.slice 3 (Kd.int .i64)) (w0:=w2) w2.heap.size rfl (.tmp 37) (.tmp 43) 28 42 (.slice none 0 0) 24 rfl Try.underlying28 aOn rfl (by decide) (by omega) u8 (Cf.aPo cn L i++Cf.aLi j x) (x++[(j:Int)]) [.slice Ad (x.length+1) cd] (λk_=>w5.heap.size<=k_) (λk_=>wr.heap.size<=k_) rfl rfl (Kd.aVl (Kd.aCm HD.out (aAj HBi.out))) (λk_ hk=>⟨by have:=HJ.out;omega,λe=>by have:=Kd.bHi HSi.out k_ e.symm;omega⟩) (λk_ hk=>by have:=HJ.out;have:=HBC.out.size;omega) (Kd.aFf (Kd.aFj (Kd.aHq HSi.out) HBC.out) λk_ hk=>⟨hk.1,λh=>by have:=hk.2.2.1;omega⟩) (aA3 HBi.out HBC.out) (aAj (aA3 HBi.out HBC.out)) (by have:=HLA.out;omega) ?_;intro vE wE ho hb hg hat;have HOE:=zK_ ho;have HBE:=zK_ hb;have HLE:=zK_ (Kd.aVh (Kd.aFj (Kd.aHq HLi.out) HBC.out) hg λk_ hk e=>by have:=HSi.out.choose_spec.1 k_ e.symm;have:=hk.1;omega);have HZE:=zK_ hg.size;have HRE:=zK_ (Kd.aHr (Kd.aBp HRj.out HBC.out) λk_ hk hlt=>hg.block k_ hlt λe=>by have:=HSi.out.choose_spec.1 k_ e.symm;omega);clear ho hb hg hat)));go_roundw
     case rel =>
      refine⟨j+1,by go_num,⟨by have:=HJN.out;omega,by have:=HBC.out.size;have:=HZE.out;have:=HJ.out;omega⟩,HBE,⟨Kd.aFf HLE.out λk_ hk=>hk.1⟩,⟨?_⟩,HRE⟩;rw[Cf.aOs,<-List.append_assoc];exact HOE.out
     case measure =>
      have:=HJN.out;first|(simp[intOf];done)|(simp[intOf];omega)
    have d0:decide ((j:Int)<=m1)=false:=zdN (by have:=HCN.out;omega);(have hjn:j=cn:=by have:=HJ.out;omega);subst hjn;clear hj;go_wp2;go_roundw
    case rel =>
     refine⟨i+1,by go_num,⟨by have:=HLT.out;omega,HJ.out.2⟩,HBi,HLi,⟨?_⟩⟩;rw[Cf.aOa _ HXI.out];exact HSi.out
    case measure =>
     have:=HLT.out;(simp[intOf]);omega
def aAp.l0:Nat->List Int->List Int->List Int->Int->Int->Option (Int)
 | 0,_,_,_,_,_=>none
 | k+1,x0,x1,x9,fK,eJ=>if eJ<fK then(if 0<=eJ then(if eJ<(x9.length:Int) then(if eJ≥(x1.length:Int) then(some 1) else(if eJ<(x1.length:Int) then((cmp_Compare_int.f (rd x9 eJ) (rd x1 eJ)).bind λbE=>(if bE=0 then(aAp.l0 k x0 x1 x9 fK (wrap64 (eJ+1))) else(some bE))) else(none))) else(none)) else(none)) else(if(x0.length:Int)<(x1.length:Int) then(some (-1)) else(some 0))
def aAp.f (k:Nat) (l0:List Int) (l1:List Int):Option (Int):=aAp.l0 k l0 l1 l0 (l0.length:Int) 0
theorem aAp.aBa:∀ k,(∀ y0 y1 y2 y3 y4,LeO (aAp.l0 k y0 y1 y2 y3 y4) (aAp.l0 (k+1) y0 y1 y2 y3 y4))
 | 0=>λ_ _ _ _ _ r h=>by simp[aAp.l0]at h
 | k+1=>by
  have ih0:=aAp.aBa k
  ·intro y0 y1 y2 y3 y4
   unfold aAp.l0
   exact zm0
theorem aAp.mono:∀ a0 a1 k,LeO (aAp.f k a0 a1) (aAp.f (k+1) a0 a1):=by
 intro a0 a1 k;have ih0:=aAp.aBa k;unfold aAp.f;exact zm0
theorem aAp.calls (k:Nat) (A0:Option Addr) (c0:Nat) (l0:List Int) (A1:Option Addr) (c1:Nat) (l1:List Int) (r:Int) (w:World) (hr0:Kd.C (Kd.int .i64) w A0 l0.length l0) (hc0:l0.length<=c0) (hr1:Kd.C (Kd.int .i64) w A1 l1.length l1) (hc1:l1.length<=c1) (h:aAp.f k l0 l1=some r) :
  Calls Try.prog 76 #[.slice A0 l0.length c0,.slice A1 l1.length c1] w λe w'=>e = .returned (.int .i64 r)/\aB8 w w':=by
 have HR0:=zK_ hr0;have HC0:=zK_ hc0;clear hr0 hc0;have HR1:=zK_ hr1;have HC1:=zK_ hc1;clear hr1 hc1;have H:(aAp.l0 k l0 l1 l0 (l0.length:Int) 0)=some r:=h;clear h;have H':=zK_ H;clear H;go_enter Try.func76,Try.ntmps76;go_wp2;(go_loopg [11] k (λkq v11 w'=>∃ (aT:Int),v11 = .int .i64 aT/\aA1 (aAp.l0 kq l0 l1 l0 (l0.length:Int) aT=some r)/\aA1 (kq<=k)/\aB8 w w'));case atStart=>exact⟨(0),zz5,H',⟨Nat.le_refl _⟩,by repeat(first|exact aB8.refl _|apply aB8.step)⟩
 case round =>
  clear H';(try clear c1);(try clear p2);obtain⟨aT,rfl,HA,HK1,⟨m1,rfl⟩⟩:=hrel
  cases gk with
  | zero=>exact absurd HA.out (by simp[aAp.l0])
  | succ k1 =>
   have H:=HA.out;clear HA;simp only[aAp.l0]at H;by_cases c3:aT<(l0.length:Int);rotate_left
   ·rw[if_neg c3]at H;have i4:=zdN c3;clear c3;by_cases c10:(l0.length:Int)<(l1.length:Int)
    ·rw[if_pos c10]at H;have gN:=zdY c10;have uH:decide (l0.length<l1.length)=true:=zdY (Int.ofNat_lt.mp c10);clear c10;obtain rfl:=zdI H;go_wp2;go_ret;exact⟨zz5,by repeat(first|exact aB8.refl _|apply aB8.step)⟩
    rw[if_neg c10]at H;have gN:=zdN c10;have uH:decide (l0.length<l1.length)=false:=zdN (λh=>c10 (Int.ofNat_lt.mpr h));clear c10;obtain rfl:=zdI H;go_wp2;go_ret;exact⟨zz5,by repeat(first|exact aB8.refl _|apply aB8.step)⟩
   rw[if_pos c3]at H;have i4:=zdY c3;clear c3;by_cases c4:0<=aT;rotate_left
   ·rw[if_neg c4]at H;exact absurd H (by simp)
   rw[if_pos c4]at H;have iI:=zdY c4;clear c4;by_cases c5:aT<(l0.length:Int);rotate_left
   ·rw[if_neg c5]at H;exact absurd H (by simp)
   rw[if_pos c5]at H;have fL:=zdY c5;clear c5;by_cases c6:aT≥(l1.length:Int)
   ·rw[if_pos c6]at H;have iT:decide ((l1.length:Int)<=aT)=true:=zdY c6;clear c6;obtain rfl:=zdI H;have aE0:0<=(aT:Int):=zdT zz4;have aDz:aT<(l0.length:Int):=zdT zz4;obtain⟨fC,aG5,bU⟩:=Kd.aCz HR0.out aT aE0 aDz;cases aG5;replace aE0:=eq_true aE0;replace aDz:=eq_true aDz;go_wp2;go_ret;exact⟨zz5,by repeat(first|exact aB8.refl _|apply aB8.step)⟩
   rw[if_neg c6]at H;have iT:decide ((l1.length:Int)<=aT)=false:=zdN c6;clear c6;by_cases c7:aT<(l1.length:Int);rotate_left
   ·rw[if_neg c7]at H;exact absurd H (by simp)
   rw[if_pos c7]at H;have jE:=zdY c7;clear c7;obtain⟨bE,A80,H⟩:=zO_ H;(try dsimp only at H);have A8:=zK_ A80;clear A80;by_cases c9:bE=0;rotate_left
   ·rw[if_neg c9]at H;have j6:(bE==0)=false:=beq_eq_false_iff_ne.mpr c9;have uB:(bE != 0)=true:=bne_iff_ne.mpr c9;obtain rfl:=zdI H;have aE0:0<=(aT:Int):=zdT zz4;have aDz:aT<(l0.length:Int):=zdT zz4;obtain⟨fC,aG5,bU⟩:=Kd.aCz HR0.out aT aE0 aDz;cases aG5;replace aE0:=eq_true aE0;replace aDz:=eq_true aDz;have aFe:0<=(aT:Int):=zdT zz4;have aFd:aT<(l1.length:Int):=zdT zz4;obtain⟨d8,aJn,cJ⟩:=Kd.aCz HR1.out aT aFe aFd;cases aJn;replace aFe:=eq_true aFe;replace aFd:=eq_true aFd;(go_wp2_with (first|((with_reducible refine aAa (f:=112) rfl ?_);refine aBg (some 26) rfl rfl Try.func112 (by kernel_rfl) rfl #[.int .i64 (rd l0 aT),.int .i64 (rd l1 aT)] rfl zz3 ?_;(with_reducible refine(cmp_Compare_int.calls (rd l0 aT) (rd l1 aT) bE _ A8.out).mono ?_);rintro e w' ⟨rfl,⟨nd,rfl⟩⟩;refine⟨_,rfl,?_⟩)));go_ret;exact⟨zz5,by repeat(first|exact aB8.refl _|apply aB8.step)⟩
   rw[if_pos c9]at H;have j6:(bE==0)=true:=beq_iff_eq.mpr c9;have uB:(bE != 0)=false:=bne_eq_false_iff_eq.mpr c9;clear c9;have H':=zK_ H;clear H;have aE0:0<=(aT:Int):=zdT zz4;have aDz:aT<(l0.length:Int):=zdT zz4;obtain⟨fC,aG5,bU⟩:=Kd.aCz HR0.out aT aE0 aDz;cases aG5;replace aE0:=eq_true aE0;replace aDz:=eq_true aDz;have aFe:0<=(aT:Int):=zdT zz4;have aFd:aT<(l1.length:Int):=zdT zz4;obtain⟨d8,aJn,cJ⟩:=Kd.aCz HR1.out aT aFe aFd;cases aJn;replace aFe:=eq_true aFe;replace aFd:=eq_true aFd;(go_wp2_with (first|((with_reducible refine aAa (f:=112) rfl ?_);refine aBg (some 26) rfl rfl Try.func112 (by kernel_rfl) rfl #[.int .i64 (rd l0 aT),.int .i64 (rd l1 aT)] rfl zz3 ?_;(with_reducible refine(cmp_Compare_int.calls (rd l0 aT) (rd l1 aT) bE _ A8.out).mono ?_);rintro e w' ⟨rfl,⟨nd,rfl⟩⟩;refine⟨_,rfl,?_⟩)));go_roundg k1;(case measure=>have:=HK1.out;omega);case rel=>exact⟨(wrap64 (aT+1)),zz5,H',⟨aFc⟩,by repeat(first|exact aB8.refl _|apply aB8.step)⟩
end P
namespace Cf
def bL5 (t:Option Addr×Nat×Nat):Value:=.slice t.1 t.2.1 t.2.2
def HK:Kd (Option Addr×Nat×Nat):=Kd.scalar bL5 (λ_=>rfl)
def aH5:List Int->List Int->Int
 | [],[]=>0
 | [],_::_=>-1
 | _::_,[]=>1
 | x::xs,y::ys=>if x=y then aH5 xs ys else if x<y then -1 else 1
theorem aOg:∀ x:List Int,aH5 x x=0
 | []=>rfl
 | x::xs=>by unfold aH5;rw[if_pos rfl];exact aOg xs
theorem aGj:∀ x y:List Int,aH5 y x=- aH5 x y
 | [],[]=>rfl
 | [],_::_=>rfl
 | _::_,[]=>rfl
 | x::xs,y::ys=>by
  unfold aH5
  by_cases e:x=y
  ·rw[if_pos e,if_pos e.symm]
   exact aGj xs ys
  ·rw[if_neg e,if_neg (λh=>e h.symm)]
   by_cases h:x<y
   ·rw[if_pos h,if_neg (by omega)]
    rfl
   ·rw[if_neg h,if_pos (by omega)]
theorem aLb:∀ {x y:List Int},aH5 x y=0->x=y
 | [],[],_=>rfl
 | [],_::_,h=>by simp[aH5]at h
 | _::_,[],h=>by simp[aH5]at h
 | x::xs,y::ys,h=>by
  unfold aH5 at h
  by_cases e:x=y
  ·rw[if_pos e]at h
   rw[e,aLb h]
  ·rw[if_neg e]at h
   split at h<;>omega
theorem aNb:∀ {x y z:List Int},aH5 x y<=0->aH5 y z<=0->aH5 x z<=0
 | [],_,[],_,_=>by simp[aH5]
 | [],_,_::_,_,_=>by simp[aH5]
 | _::_,[],_,h,_=>by simp[aH5]at h
 | x::xs,y::ys,[],_,h=>by simp[aH5]at h
 | x::xs,y::ys,z::zs,h1,h2=>by
  unfold aH5 at h1 h2 ⊢
  by_cases e1:x=y
  ·subst e1
   by_cases e2:x=z
   ·rw[if_pos rfl]at h1
    rw[if_pos e2]at h2
    rw[if_pos e2]
    exact aNb h1 h2
   ·rw[if_neg e2]at h2
    rw[if_neg e2]
    exact h2
  ·rw[if_neg e1]at h1
   have h3:x<y:=by
    apply Classical.byContradiction
    intro c
    rw[if_neg c]at h1
    omega
   by_cases e2:y=z
   ·subst e2
    rw[if_neg e1,if_pos h3]
    omega
   ·rw[if_neg e2]at h2
    have h4:y<z:=by
     apply Classical.byContradiction
     intro c
     rw[if_neg c]at h2
     omega
    rw[if_neg (by omega),if_pos (by omega)]
    omega
theorem bAg {x y z:List Int} (h1:aH5 x y<0) (h2:aH5 y z<0):aH5 x z<0:=by
 have h3:=aNb (Int.le_of_lt h1) (Int.le_of_lt h2)
 apply Classical.byContradiction
 intro c
 have h4:aH5 x z=0:=by omega
 have h5:=aLb h4
 subst h5
 have:=aGj x y
 omega
def sortL (L:List (List Int)):List (List Int):=L.mergeSort λx y=>decide (aH5 x y<=0)
theorem aJc (L:List (List Int)):(sortL L).Perm L:=List.mergeSort_perm L _
theorem aTo (L:List (List Int)):(sortL L).length=L.length:=(aJc L).length_eq
theorem aTn (L:List (List Int)):(sortL L).Pairwise λx y=>aH5 x y<=0:=by
 have h:=List.pairwise_mergeSort (le:=λx y:List Int=>decide (aH5 x y<=0)) (λa b c h1 h2=>zdY (aNb (zdT h1) (zdT h2))) (λa b=>by have:=aGj a b;simp;omega) L
 exact h.imp λh=>zdT h
theorem aWj {L s:List (List Int)} (h1:s.Perm L) (h2:s.Pairwise λx y=>aH5 x y<=0):s=sortL L :=
 List.Perm.eq_of_pairwise (λa b _ _ h3 h4=>aLb (by have:=aGj a b;omega)) h2 (aTn L) (h1.trans (aJc L).symm)
theorem aXh {w:World} {base g cap:Nat} {ok:Nat->Prop} {f:Nat->Nat} {cur:Array Value} {Z:List (List Int×Nat)} (hb:base<=g) (hok:ok g) (hn:Z.length<=cap) (hcm:cap<=maxLen) (hcs:cur.size=cap) (hc:w.heap[g]? = some (.cells cur 42 (0,0))) (hz:(Z.map (·.2)).Nodup) (hH:aI5 w base ok f cur Z) :
  Kd.S (Kd.slice 3 (Kd.int .i64)) 42 w base ok (.slice (some ⟨g,0,none⟩) Z.length cap) (Z.map (·.1)):=by
 have h2:aI5 w base ok (λk=>(Z.map (·.2)).idxOf (f k)) cur (Z.map (·.1)).zipIdx:=by
  intro j x i hj
  rw[List.getElem?_zipIdx,Nat.zero_add,List.getElem?_map]at hj
  obtain⟨y,hy,he⟩:=Option.map_eq_some_iff.1 hj
  obtain⟨z,hz1,hz2⟩:=Option.map_eq_some_iff.1 hy
  obtain⟨rfl,rfl⟩:=Prod.mk.inj he
  obtain⟨x,i⟩:=z
  obtain rfl:x=y:=hz2
  obtain⟨v,hv,hR⟩:=hH j x i hz1
  refine⟨v,hv,Kd.aBh hR λk hk=>⟨hk.1,?_⟩⟩
  have hm:(Z.map (·.2))[j]? = some i:=by rw[List.getElem?_map,hz1];rfl
  obtain⟨hjl,hje⟩:=List.getElem?_eq_some_iff.1 hm
  show (Z.map (·.2)).idxOf (f k)=j
  rw[hk.2,<-hje]
  exact hz.idxOf_getElem j hjl
 have h3:=aQ3 (rows:=Z.map (·.1)) hb hok (by rw[List.length_map];exact hn) hcm hcs hc h2
 rw[List.length_map]at h3
 exact h3
end Cf
namespace P
def aBq.ren:Go.Shelf.Ren:=⟨λn=>if n=6 then 75 else if n=14 then 110 else if n=15 then 111 else if n=20 then 121 else if n=21 then 122 else if n=22 then 123 else if n=23 then 124 else if n=24 then 125 else if n=25 then 126 else if n=26 then 127 else if n=27 then 128 else if n=28 then 129 else if n=29 then 130 else if n=46 then 136 else if n=47 then 137 else if n=48 then 138 else if n=49 then 139 else if n=50 then 140 else if n=57 then 142 else n,λn=>if n=0 then 0 else if n=3 then 3 else if n=4 then 4 else if n=5 then 5 else if n=9 then 9 else if n=22 then 28 else if n=24 then 42 else if n=25 then 89 else if n=39 then 120 else if n=45 then 125 else if n=46 then 126 else if n=50 then 130 else if n=53 then 133 else if n=55 then 135 else if n=66 then 138 else if n=70 then 142 else if n=76 then 144 else if n=77 then 96 else n,λn=>n⟩
theorem aBq.lay:Go.Proofs.SlLaysF.n6 Try.prog aBq.ren where
 mixed:=by kernel_rfl
 f6:=Exists.intro ("slices.SortFunc[[][]int,[]int]") (And.intro (by kernel_rfl) (by kernel_rfl))
 f14:=Exists.intro ("slices.pdqsortCmpFunc[[]int]") (And.intro (by kernel_rfl) (by kernel_rfl))
 f15:=by kernel_rfl
 f20:=Exists.intro ("slices.insertionSortCmpFunc[[]int]") (And.intro (by kernel_rfl) (by kernel_rfl))
 f21:=Exists.intro ("slices.heapSortCmpFunc[[]int]") (And.intro (by kernel_rfl) (by kernel_rfl))
 f22:=Exists.intro ("slices.breakPatternsCmpFunc[[]int]") (And.intro (by kernel_rfl) (by kernel_rfl))
 f23:=Exists.intro ("slices.choosePivotCmpFunc[[]int]") (And.intro (by kernel_rfl) (by kernel_rfl))
 f24:=Exists.intro ("slices.reverseRangeCmpFunc[[]int]") (And.intro (by kernel_rfl) (by kernel_rfl))
 f25:=Exists.intro ("slices.partialInsertionSortCmpFunc[[]int]") (And.intro (by kernel_rfl) (by kernel_rfl))
 f26:=Exists.intro ("slices.partitionEqualCmpFunc[[]int]") (And.intro (by kernel_rfl) (by kernel_rfl))
 f27:=Exists.intro ("slices.partitionCmpFunc[[]int]") (And.intro (by kernel_rfl) (by kernel_rfl))
 f28:=by kernel_rfl
 f29:=by kernel_rfl
 f46:=Exists.intro ("slices.siftDownCmpFunc[[]int]") (And.intro (by kernel_rfl) (by kernel_rfl))
 f47:=by kernel_rfl
 f48:=by kernel_rfl
 f49:=Exists.intro ("slices.medianAdjacentCmpFunc[[]int]") (And.intro (by kernel_rfl) (by kernel_rfl))
 f50:=Exists.intro ("slices.medianCmpFunc[[]int]") (And.intro (by kernel_rfl) (by kernel_rfl))
 f57:=Exists.intro ("slices.order2CmpFunc[[]int]") (And.intro (by kernel_rfl) (by kernel_rfl))
 t0:=by kernel_rfl
 a0:=λ_=>rfl
 z0:=λ_=>rfl
 v0:=λ_=>rfl
 t3:=by kernel_rfl
 a3:=λ_=>rfl
 z3:=λ_=>rfl
 v3:=λ_=>rfl
 t4:=by kernel_rfl
 a4:=λ_=>rfl
 z4:=λ_=>rfl
 v4:=λ_=>rfl
 t5:=by kernel_rfl
 a5:=λ_=>rfl
 z5:=λ_=>rfl
 v5:=λ_=>rfl
 t9:=by kernel_rfl
 a9:=λ_=>rfl
 z9:=λ_=>rfl
 v9:=λ_=>rfl
 t22:=by kernel_rfl
 a22:=λ_=>rfl
 z22:=λ_=>rfl
 v22:=λ_=>rfl
 a24:=λ_=>rfl
 z24:=λ_=>rfl
 t25:=by kernel_rfl
 a25:=λ_=>rfl
 z25:=λ_=>rfl
 v25:=λ_=>rfl
 t39:=by kernel_rfl
 a39:=λ_=>rfl
 z39:=λ_=>rfl
 v39:=λ_=>rfl
 t45:=by kernel_rfl
 a45:=λ_=>rfl
 z45:=λ_=>rfl
 v45:=λ_=>rfl
 t46:=by kernel_rfl
 a46:=λ_=>rfl
 z46:=λ_=>rfl
 v46:=λ_=>rfl
 t50:=by kernel_rfl
 a50:=λ_=>rfl
 z50:=λ_=>rfl
 v50:=λ_=>rfl
 t53:=by kernel_rfl
 a53:=λ_=>rfl
 z53:=λ_=>rfl
 v53:=λ_=>rfl
 t55:=by kernel_rfl
 a55:=λ_=>rfl
 z55:=λ_=>rfl
 v55:=λ_=>rfl
 t66:=by kernel_rfl
 a66:=λ_=>rfl
 z66:=λ_=>rfl
 v66:=λ_=>rfl
 t70:=by kernel_rfl
 a70:=λ_=>rfl
 z70:=λ_=>rfl
 v70:=λ_=>rfl
 t76:=by kernel_rfl
 a76:=λ_=>rfl
 z76:=λ_=>rfl
 v76:=λ_=>rfl
 t77:=by kernel_rfl
 a77:=λ_=>rfl
 z77:=λ_=>rfl
 v77:=λ_=>rfl
theorem aBq.other {α:Type} [Inhabited α] (enc:α->Value) (w:World) (g m:Nat) (dk:Array α) (os:Array Obj) (k:Nat) (hk:k≠g) (hlt:k<w.heap.size):(Go.Proofs.sortWorld enc w g 0 m dk os).heap[k]? = w.heap[k]?:=by
 show ((w.heap.modify g (Go.Sort.onCells (Go.Sort.putCells enc 0 dk)))++os)[k]? = _;rw[Array.getElem?_append_left (by rw[Array.size_modify];exact hlt),Array.getElem?_modify,if_neg (λe=>hk e.symm)]
theorem aBq.here {α:Type} [Inhabited α] (enc:α->Value) (w:World) (g m:Nat) (dk:Array α) (os:Array Obj) {cur:Array Value} {t:TypeId} (hc:w.heap[g]? = some (.cells cur t (0,0))):(Go.Proofs.sortWorld enc w g 0 m dk os).heap[g]? = some (.cells (Go.Sort.putCells enc 0 dk cur) t (0,0)):=by
 have hlt:g<w.heap.size:=aCi hc;show ((w.heap.modify g (Go.Sort.onCells (Go.Sort.putCells enc 0 dk)))++os)[g]? = _;rw[Array.getElem?_append_left (by rw[Array.size_modify];exact hlt),Array.getElem?_modify,if_pos rfl,hc];rfl
theorem aBq.calls (k:Nat) (L:List (List Int)) (base:Nat) (ok:Nat->Prop) (v:Value) (w:World) (hS:Kd.S (Kd.slice 3 (Kd.int .i64)) 42 w base ok v L) (hl:L.length<=1000000000) (hcmp:∀ x∈L,∀ y∈L,aAp.f k x y=some (Cf.aH5 x y)) :
  Calls Try.prog 75 #[v,.func (.func 76) #[] #[]] w λe w'=>e = .returned (.tuple #[])/\Kd.S (Kd.slice 3 (Kd.int .i64)) 42 w' base ok v (Cf.sortL L)/\Below base w w':=by
 by_cases hL:L=[]
 ·subst hL;obtain⟨A,c,rfl⟩:=Kd.aJq hS;have h:=Go.Proofs.AnyF.slices_SortFunc_none (P:=Try.prog) (ρ:=aBq.ren) { aBq.lay with} A c (.func (.func 76) #[] #[]) w;change Calls Try.prog 75 _ _ _ at h;refine h.mono ?_;rintro e w' ⟨rfl,rfl⟩;exact⟨rfl,by rw[(Cf.aJc []).eq_nil];exact hS,Below.refl _ _⟩
 have hpos:0<L.length:=List.length_pos_iff.2 hL;obtain⟨g,cap,rfl,_⟩:=Kd.aVi hS hpos;obtain⟨f,cur,hb,hok,_,hnc,hcm,hcs,hc,hH⟩:=Cf.aVg hS;have hin:Inhabited (Fin L.length):=⟨⟨0,hpos⟩⟩;have hlt:∀ i:Fin L.length,i.val<cur.size:=λi=>by have:=i.isLt;omega
 have key:∀ i:Fin L.length,Kd.R (Kd.int .i64) 3 w base (λk=>(ok k/\k≠g)/\f k=i.val) (cur[i.val]'(hlt i)) (L[i.val]'i.isLt):=by
  intro i;obtain⟨v,hv,hR⟩:=hH i.val (L[i.val]'i.isLt) i.val (by rw[List.getElem?_zipIdx,Nat.zero_add,zdH i.isLt];rfl);rw[Array.getElem?_eq_getElem (hlt i)]at hv;rw[zdI hv];exact hR
 (have h1:Go.Proofs.OneCell (λi:Fin L.length=>cur[i.val]'(hlt i)):=λi=>(Kd.bHk (key i)).2);have hsz:(List.finRange L.length).toArray.size=L.length:=by simp
 have hget:∀ j,(hj:j<L.length)->(List.finRange L.length).toArray[j]! = ⟨j,hj⟩:=λj hj=>by
  rw[getElem!_pos _ j (by simpa using hj)];simp
 have hHo:Go.Sort.Holds (λi:Fin L.length=>cur[i.val]'(hlt i)) w g 0 (List.finRange L.length).toArray:=by
  intro j hj;rw[hsz]at hj;refine⟨?_,aA0 hc _⟩;rw[hget j hj,aAs hc,Nat.zero_add,Array.getElem?_eq_getElem (by omega)]
 have hcf:∀ x y:Fin L.length,Go.Proofs.ltOf (λi j:Fin L.length=>Cf.aH5 (L[i.val]'i.isLt) (L[j.val]'j.isLt)) x y=decide (Cf.aH5 (L[x.val]'x.isLt) (L[y.val]'y.isLt)<0):=λ_ _=>rfl
 have hO:Go.Sort.SWO (Go.Proofs.ltOf (λi j:Fin L.length=>Cf.aH5 (L[i.val]'i.isLt) (L[j.val]'j.isLt))):=by
  refine⟨λx=>?_,λx y z h1 h2=>?_,λx y z h1 h2=>?_⟩
  ·rw[hcf,Cf.aOg];rfl
  ·rw[hcf]at *;exact zdY (Cf.bAg (zdT h1) (zdT h2))
  ·rw[hcf]at *;have g1:=of_decide_eq_false h1;have g2:=of_decide_eq_false h2;have n1:=Cf.aGj (L[x.val]'x.isLt) (L[y.val]'y.isLt);have n2:=Cf.aGj (L[y.val]'y.isLt) (L[z.val]'z.isLt);have n3:=Cf.aGj (L[x.val]'x.isLt) (L[z.val]'z.isLt);have:=Cf.aNb (x:=L[z.val]'z.isLt) (y:=L[y.val]'y.isLt) (z:=L[x.val]'x.isLt) (by omega) (by omega);exact zdN (by omega)
 have hreads:Go.Proofs.CmpReads Try.prog 76 #[] (λi:Fin L.length=>cur[i.val]'(hlt i)) (λi j:Fin L.length=>Cf.aH5 (L[i.val]'i.isLt) (L[j.val]'j.isLt)) g 0 (List.finRange L.length).toArray.size w:=by
  intro m os dk _ x y;have hx:=Kd.aHr (w1:=Go.Proofs.sortWorld (λi:Fin L.length=>cur[i.val]'(hlt i)) w g 0 m dk os) (key x) (λk hk hl=>aBq.other _ w g m dk os k hk.1.2 hl);have hy:=Kd.aHr (w1:=Go.Proofs.sortWorld (λi:Fin L.length=>cur[i.val]'(hlt i)) w g 0 m dk os) (key y) (λk hk hl=>aBq.other _ w g m dk os k hk.1.2 hl);obtain⟨Ax,cx,ex,hcx,hCx⟩:=Kd.aJr hx;obtain⟨Ay,cy,ey,hcy,hCy⟩:=Kd.aJr hy;show Calls Try.prog 76 #[cur[x.val]'(hlt x),cur[y.val]'(hlt y)] _ _;rw[ex,ey];refine(aAp.calls k Ax cx _ Ay cy _ _ _ hCx hcx hCy hcy (hcmp _ (List.getElem_mem _) _ (List.getElem_mem _))).mono ?_;rintro e w' ⟨rfl,hd⟩;exact⟨rfl,hd.out⟩
 have eg:∀ args w,(callFunc 76 args).run Try.prog w = .ok (.enter 76 args) w:=Go.Proofs.enters_of Try.func76 (by kernel_rfl) rfl;have hT:=Go.Proofs.Any.slices_SortFunc aBq.lay (λi:Fin L.length=>cur[i.val]'(hlt i)) h1 (λi j:Fin L.length=>Cf.aH5 (L[i.val]'i.isLt) (L[j.val]'j.isLt)) hO 76 #[] g 0 cap (List.finRange L.length).toArray w eg hreads.lays hHo (aCi hc) (by rw[hsz];omega);change Calls Try.prog 75 _ _ _ at hT;rw[hsz]at hT;refine hT.mono ?_;rintro e w' ⟨rfl,d',n,os,hP,hSo,rfl⟩;clear hT hreads eg;refine⟨rfl,?_,rfl,rfl,rfl,?_,λk hk=>?_⟩
 ·obtain⟨hds,_,hperm⟩:=hP;rw[hsz]at hds;(have e1:d'.extract 0 L.length=d':=Array.ext (by rw[Array.size_extract];omega) λi _ _=>by simp);(have e2:(List.finRange L.length).toArray.extract 0 L.length=(List.finRange L.length).toArray:=by have h_:(List.finRange L.length).take L.length=List.finRange L.length:=List.take_of_length_le (by simp);simp[h_]);rw[e1,e2]at hperm;have hp:d'.toList.Perm (List.finRange L.length):=hperm
  have hmap:(d'.toList.map λi:Fin L.length=>(L[i.val]'i.isLt,i.val)).map (·.1)=Cf.sortL L:=by
   rw[List.map_map];refine Cf.aWj ?_ ?_
   ·refine(hp.map _).trans ?_
    have e:(List.finRange L.length).map ((λp:List Int×Nat=>p.1) ∘ λi:Fin L.length=>(L[i.val]'i.isLt,i.val))=L:=by
     (refine List.ext_getElem (by simp) λi h1 h2=>?_);simp
    rw[e]
   ·rw[List.pairwise_map,List.pairwise_iff_getElem];intro i j hi hj hij;(have hi':i<d'.size:=by simpa using hi);(have hj':j<d'.size:=by simpa using hj);have hs:=hSo i j (Nat.zero_le _) hij (by omega);rw[getElem!_pos d' j hj',getElem!_pos d' i hi',hcf]at hs;have hs2:=of_decide_eq_false hs;have hn:=Cf.aGj (L[(d'[i]).val]'(d'[i]).isLt) (L[(d'[j]).val]'(d'[j]).isLt);show Cf.aH5 (L[(d'.toList[i]).val]'_) (L[(d'.toList[j]).val]'_)<=0;simp only[Array.getElem_toList];omega
  rw[<-hmap];have hlen:(d'.toList.map λi:Fin L.length=>(L[i.val]'i.isLt,i.val)).length=L.length:=by rw[List.length_map,Array.length_toList,hds]
  have hnd:((d'.toList.map λi:Fin L.length=>(L[i.val]'i.isLt,i.val)).map (·.2)).Nodup:=by
   rw[List.map_map];refine(hp.map _).nodup_iff.2 ?_
   have e:(List.finRange L.length).map ((λp:List Int×Nat=>p.2) ∘ λi:Fin L.length=>(L[i.val]'i.isLt,i.val))=List.range L.length:=by
    (refine List.ext_getElem (by simp) λi h1 h2=>?_);simp
   rw[e];exact List.nodup_range
  have hSZ:=Cf.aXh (w:=Go.Proofs.sortWorld (λi:Fin L.length=>cur[i.val]'(hlt i)) w g 0 n d' os) (base:=base) (g:=g) (cap:=cap) (ok:=ok) (f:=f) (cur:=Go.Sort.putCells (λi:Fin L.length=>cur[i.val]'(hlt i)) 0 d' cur) (Z:=d'.toList.map λi:Fin L.length=>(L[i.val]'i.isLt,i.val)) hb hok (by omega) hcm (by unfold Go.Sort.putCells;rw[Array.size_mapIdx];exact hcs) (aBq.here _ w g n d' os hc) hnd ?_
  ·rw[hlen]at hSZ;exact hSZ
  ·intro j x i hj;rw[List.getElem?_map]at hj;obtain⟨t,ht,he⟩:=Option.map_eq_some_iff.1 hj;obtain⟨rfl,rfl⟩:=Prod.mk.inj he;obtain⟨hjl,hje⟩:=List.getElem?_eq_some_iff.1 ht;(have hjs:j<d'.size:=by simpa using hjl);refine⟨cur[t.val]'(hlt t),?_,Kd.aBh (Kd.aHr (key t) (λk hk hl=>aBq.other _ w g n d' os k hk.1.2 hl)) λk hk=>⟨hk.1.1,hk.2⟩⟩;unfold Go.Sort.putCells;rw[Array.getElem?_mapIdx,Array.getElem?_eq_getElem (show j<cur.size by omega),Option.map_some,if_pos ⟨Nat.zero_le _,by omega⟩,Nat.sub_zero,getElem!_pos d' j hjs];(have e3:d'[j]=t:=by rw[<-hje,Array.getElem_toList]);rw[e3]
 ·show w.heap.size<=((w.heap.modify g (Go.Sort.onCells (Go.Sort.putCells (λi:Fin L.length=>cur[i.val]'(hlt i)) 0 d')))++os).size;rw[Array.size_append,Array.size_modify];omega
 ·have hgl:g<w.heap.size:=aCi hc;exact aBq.other _ w g n d' os k (by omega) (by omega)
def aAd.up (f:List Int->List Int) (L:List (List Int)) (i:Nat):List (List Int):=(L.take i).map f++L.drop i
theorem aAd.aTe (f:List Int->List Int) (L:List (List Int)) (i:Nat):(aAd.up f L i).length=L.length:=by unfold aAd.up;rw[List.length_append,List.length_map,List.length_take,List.length_drop];omega
theorem aAd.aYi (f:List Int->List Int) {L:List (List Int)} {i:Nat} (h:i<L.length):(aAd.up f L i).getD i []=L[i]:=by
 unfold aAd.up;rw[zdG,List.getElem?_append_right (by rw[List.length_map,List.length_take];omega),List.length_map,List.length_take,Nat.min_eq_left (by omega),Nat.sub_self,List.getElem?_drop,Nat.add_zero,zdH h];rfl
theorem aAd.bD2 (f:List Int->List Int) {L:List (List Int)} {i:Nat} (h:i<L.length):(aAd.up f L i).set i (f L[i])=aAd.up f L (i+1):=by
 unfold aAd.up;(have hl:((L.take i).map f).length=i:=by rw[List.length_map,List.length_take];omega);rw[List.set_append_right _ _ (by omega),hl,Nat.sub_self,List.drop_eq_getElem_cons h,List.set_cons_zero,List.take_succ_eq_append_getElem h,List.map_append,List.append_assoc];rfl
def aAd.row (k:Nat) (x:List Int):List Int:=x.set 0 (wrap64 (-((aC0.f k x).getD 0)))
def aAd.rows (k:Nat) (L:List (List Int)):List (List Int):=L.map (aAd.row k)
abbrev aAd.ok (k:Nat) (L:List (List Int)):Prop:=(∀ x∈L,(aC0.f k x).isSome=true/\0<x.length/\x.length<=1000000)/\L.length<=1000000/\∀ x∈aAd.rows k L,∀ y∈aAd.rows k L,aAp.f k x y=some (Cf.aH5 x y)
theorem aAd.aTr {k:Nat} {L:List (List Int)} (h:aAd.ok k L):aAd.rows (k+1) L=aAd.rows k L:=by
 unfold aAd.rows;(refine List.map_congr_left λx hx=>?_);obtain⟨b,hb⟩:=Option.isSome_iff_exists.1 (h.1 x hx).1;unfold aAd.row;rw[hb,aC0.mono x k _ hb]
theorem aAd.bGx {k:Nat} {L:List (List Int)} (h:aAd.ok k L):aAd.ok (k+1) L:=by
 refine⟨λx hx=>⟨?_,(h.1 x hx).2⟩,h.2.1,?_⟩
 ·obtain⟨b,hb⟩:=Option.isSome_iff_exists.1 (h.1 x hx).1;rw[aC0.mono x k _ hb];rfl
 ·rw[aAd.aTr h];exact λx hx y hy=>aAp.mono x y k _ (h.2.2 x hx y hy)
def aAd.f (k:Nat) (a0:Int) (es:List S73):Option (List (List Int)×Bool) :=
 (aC6.f a0 es).bind λt=>if t=true then(aC9.f k a0 es).bind λc=>if c<=400 then(aA5.f k a0 es 0).bind λL=>if aAd.ok k L then some (Cf.sortL (aAd.rows k L),true) else none else some ([],false) else some ([],false)
theorem aAd.mono:∀ a0 a1 k,LeO (aAd.f k a0 a1) (aAd.f (k+1) a0 a1):=by
 intro a0 a1 k;unfold aAd.f;(refine LeO.bind (LeO.refl _) λt=>LeO.ite (LeO.bind (aC9.mono _ _ k) λc=>LeO.ite (LeO.bind (aA5.mono _ _ _ k) λL=>?_) (LeO.refl _)) (LeO.refl _));intro r h;(split at h);(case isFalse=>cases h);rename_i hc;rw[if_pos (aAd.bGx hc),aAd.aTr hc];exact h
theorem aAd.calls (k:Nat) (aE:Int) (aQ:Option Addr) (aG:Nat) (aC:List S73) (r1:List (List Int)) (r2:Bool) (w:World) (hr0_1:Kd.C k73 w aQ aC.length aC) (hc0_1:aC.length<=aG) (h:aAd.f k aE aC=some (r1,r2)) :
  Calls Try.prog 33 #[.agg #[.int .i64 aE,.slice aQ aC.length aG]] w λe w'=>∃ v0_:Value,e = .returned (.tuple #[v0_,.bool r2])/\Kd.S (Kd.slice 3 (Kd.int .i64)) 42 w' w.heap.size (λ_=>True) v0_ r1/\Below w.heap.size w w':=by
 have aIh:=Try.underlying25;have HE:=zK_ hr0_1;have HC:=zK_ hc0_1;clear hr0_1 hc0_1;unfold aAd.f at h;replace h:=zO_ h;obtain⟨t,ht,h⟩:=h;have HTT:=zK_ ht;clear ht
 cases t with
 | false =>
  rw[if_neg (by simp)]at h;obtain⟨rfl,rfl⟩:=Prod.mk.inj (zdI h);clear h;go_enter Try.func33,Try.ntmps33;(go_wp2_with (first|((with_reducible refine aAw (N:=1) rfl ?_);refine aAq ?hg (N:=1) ?hd (cs:=#[.int .i64 aE,.slice aQ aC.length aG]) (t:=25) ?hr ?_;(case hd=>rfl);(case hg=>rfl);(case hr=>exact aDq);intro gg hg w1 hbox hb;have BG1:=zK_ hbox;have HB1:=zK_ hb;have hz0:w1.cell? ⟨gg,0,none⟩=some (.int .i64 aE):=(aAs BG1.out 0).trans rfl;have hz1:w1.cell? ⟨gg,1,none⟩=some (.slice aQ aC.length aG):=(aAs BG1.out 1).trans rfl;clear hg hbox hb)));refine(aC6.calls aE _ _ aC false _ (Kd.aDj HE.out HB1.out) HC.out HTT.out).mono ?_;rintro e w2 ⟨rfl,hb⟩;have BG2:=zK_ (aA4 BG1.out hb);have HB2:=zK_ (aA3 HB1.out hb);clear hb hz0 hz1;go_wp2;(go_ret2);exact⟨_,rfl,Kd.aNm _ _ _ _ _,HB2.out⟩
 | true =>
  rw[if_pos rfl]at h;replace h:=zO_ h;obtain⟨c,hc,h⟩:=h;have HCT:=zK_ hc;clear hc;by_cases hle:c<=400;rotate_left
  ·rw[if_neg hle]at h;obtain⟨rfl,rfl⟩:=Prod.mk.inj (zdI h);clear h;have d0:decide (c>400)=true:=zdY (by omega);have d1:decide (400<c)=true:=zdY (by omega);go_enter Try.func33,Try.ntmps33;(go_wp2_with (first|((with_reducible refine aAw (N:=1) rfl ?_);refine aAq ?hg (N:=1) ?hd (cs:=#[.int .i64 aE,.slice aQ aC.length aG]) (t:=25) ?hr ?_;(case hd=>rfl);(case hg=>rfl);(case hr=>exact aDq);intro gg hg w1 hbox hb;have BG1:=zK_ hbox;have HB1:=zK_ hb;have hz0:w1.cell? ⟨gg,0,none⟩=some (.int .i64 aE):=(aAs BG1.out 0).trans rfl;have hz1:w1.cell? ⟨gg,1,none⟩=some (.slice aQ aC.length aG):=(aAs BG1.out 1).trans rfl;clear hg hbox hb)));refine(aC6.calls aE _ _ aC true _ (Kd.aDj HE.out HB1.out) HC.out HTT.out).mono ?_;rintro e w2 ⟨rfl,hb⟩;have BG2:=zK_ (aA4 BG1.out hb);have HB2:=zK_ (aA3 HB1.out hb);clear hb hz0 hz1;have hz0:w2.cell? ⟨gg,0,none⟩=some (.int .i64 aE):=(aAs BG2.out 0).trans rfl;have hz1:w2.cell? ⟨gg,1,none⟩=some (.slice aQ aC.length aG):=(aAs BG2.out 1).trans rfl;(go_wp2_with fail);refine(aC9.calls k aE _ _ aC c _ (Kd.aDj HE.out HB2.out) HC.out HCT.out).mono ?_;rintro e w3 ⟨rfl,hb⟩;have BG3:=zK_ (aA4 BG2.out hb);have HB3:=zK_ (aA3 HB2.out hb);clear hb hz0 hz1 BG2 BG1;go_wp2;(go_ret2);exact⟨_,rfl,Kd.aNm _ _ _ _ _,HB3.out⟩
  rw[if_pos hle]at h;replace h:=zO_ h;obtain⟨L,hL,h⟩:=h;(split at h);(case isFalse=>cases h);rename_i hok;obtain⟨rfl,rfl⟩:=Prod.mk.inj (zdI h);clear h;obtain⟨hro,hLl,hcmp⟩:=hok;have HLL:=zK_ hL;have HRO:=zK_ hro;have HLn:=zK_ hLl;have HCM:=zK_ hcmp;(have hnb:(L.length:Int)<=1000000:=by omega);have d0:decide (c>400)=false:=zdN (by omega);have d1:decide (400<c)=false:=zdN (by omega);clear hro hLl hcmp hL hle;go_enter Try.func33,Try.ntmps33;(go_wp2_with (first|((with_reducible refine aAw (N:=1) rfl ?_);refine aAq ?hg (N:=1) ?hd (cs:=#[.int .i64 aE,.slice aQ aC.length aG]) (t:=25) ?hr ?_;(case hd=>rfl);(case hg=>rfl);(case hr=>exact aDq);intro gg hg w1 hbox hb;have BG1:=zK_ hbox;have HB1:=zK_ hb;have hz0:w1.cell? ⟨gg,0,none⟩=some (.int .i64 aE):=(aAs BG1.out 0).trans rfl;have hz1:w1.cell? ⟨gg,1,none⟩=some (.slice aQ aC.length aG):=(aAs BG1.out 1).trans rfl;clear hg hbox hb)));refine(aC6.calls aE _ _ aC true _ (Kd.aDj HE.out HB1.out) HC.out HTT.out).mono ?_;rintro e w2 ⟨rfl,hb⟩;have BG2:=zK_ (aA4 BG1.out hb);have HB2:=zK_ (aA3 HB1.out hb);clear hb hz0 hz1;have hz0:w2.cell? ⟨gg,0,none⟩=some (.int .i64 aE):=(aAs BG2.out 0).trans rfl;have hz1:w2.cell? ⟨gg,1,none⟩=some (.slice aQ aC.length aG):=(aAs BG2.out 1).trans rfl;(go_wp2_with fail);refine(aC9.calls k aE _ _ aC c _ (Kd.aDj HE.out HB2.out) HC.out HCT.out).mono ?_;rintro e w3 ⟨rfl,hb⟩;have BG3:=zK_ (aA4 BG2.out hb);have HB3:=zK_ (aA3 HB2.out hb);clear hb hz0 hz1 BG2 BG1;have hz0:w3.cell? ⟨gg,0,none⟩=some (.int .i64 aE):=(aAs BG3.out 0).trans rfl;have hz1:w3.cell? ⟨gg,1,none⟩=some (.slice aQ aC.length aG):=(aAs BG3.out 1).trans rfl;(go_wp2_with fail);refine(aA5.calls k aE _ _ aC 0 L _ (Kd.aDj HE.out HB3.out) HC.out HLL.out).mono ?_;rintro e w4 ⟨v4,rfl,hS,hb⟩;have HB4:=zK_ (aA3 HB3.out hb);have hS4:=Kd.aNn hS HB3.out.size;obtain⟨A,cA,eA⟩:=Kd.aJq hS4;subst eA;have HS4:=zK_ hS4;clear hS hb hz0 hz1 hS4 BG3;(try go_wp2);(go_loopw [19] (λv19 wr=>∃ i:Nat,v19 = .int .i64 (i:Int)/\aA1 (i<=L.length)/\aA1 (Below w.heap.size w wr)/\aA1 (Kd.S (Kd.slice 3 (Kd.int .i64)) 42 wr w.heap.size (λ_=>True) (.slice A L.length cA) (aAd.up (aAd.row k) L i))) (λv _=>L.length-(intOf v).toNat));case atStart=>exact⟨0,rfl,⟨Nat.zero_le _⟩,HB4,HS4⟩
  case round =>
   clear HS4 HB4;obtain⟨i,rfl,HI,HBr,HS⟩:=hrel;by_cases hlt:i<L.length;rotate_left
   ·have c0_:decide ((i:Int)<(L.length:Int))=false:=zdN (by omega);have c1_:decide (i<L.length)=false:=zdN hlt;(have hi:i=L.length:=by have:=HI.out;omega);subst hi;clear hlt;(have eU:aAd.up (aAd.row k) L L.length=aAd.rows k L:=by unfold aAd.up aAd.rows;rw[List.take_length,List.drop_length,List.append_nil]);have hS:=HS.out;rw[eU]at hS;have HS8:=zK_ hS;clear hS HS eU;(go_wp2_with fail);refine(aBq.calls k (aAd.rows k L) w.heap.size (λ_=>True) _ _ HS8.out (by unfold aAd.rows;rw[List.length_map];have:=HLn.out;omega) HCM.out).mono ?_;rintro e w9 ⟨rfl,hS9,hb⟩;have HS9:=zK_ hS9;have HB9:=zK_ (HBr.out.trans hb);clear hS9 hb;go_wp2;(go_ret2);exact⟨_,rfl,HS9.out,HB9.out⟩
   have c0_:decide ((i:Int)<(L.length:Int))=true:=zdY (by omega);have c1_:decide (i<L.length)=true:=zdY hlt;(have p1:(0:Int)<=(i:Int):=by omega);(have p2:(i:Int)<(L.length:Int):=by omega);(have hib:(i:Int)<=1000000:=by omega);have hS:=HS.out;rw[<-aAd.aTe (aAd.row k) L i]at hS;obtain⟨g,cap,eg,_⟩:=Kd.aVi hS (by rw[aAd.aTe];omega);injection eg with eA _ eC;subst eA;subst eC;rw[aAd.aTe (aAd.row k) L i]at hS;obtain⟨_,cc,_,hM,hcell,_,_⟩:=Kd.aRm hS ([]:List Int) (i:Int) p1 p2;obtain⟨vx,hvx,hRx⟩:=hM;subst hvx;replace hcell:=hcell 0 vx rfl;rw[Int.toNat_natCast,aAd.aYi _ hlt]at hRx;obtain⟨hsm,hx0,hxl⟩:=HRO.out _ (List.getElem_mem hlt);have hset:=aAd.bD2 (aAd.row k) hlt;have hget:=aAd.aYi (aAd.row k) hlt;generalize L[i]=x at hRx hsm hx0 hxl hset hget;obtain⟨s,hs⟩:=Option.isSome_iff_exists.1 hsm;(have hrow:aAd.row k x=x.set 0 (wrap64 (-s)):=by unfold aAd.row;rw[hs];rfl);rw[hrow]at hset;obtain⟨gr,cr,er,_⟩:=Kd.aHs hRx hx0;subst er;rw[Int.toNat_natCast,show i*(Kd.slice 3 (Kd.int .i64)).sz+0=i from Nat.mul_one i,add_plain]at hcell;have HRi:=zK_ (Kd.aAc hRx);have HSM:=zK_ hs;have bLj:=zK_ hset;have bLo:=zK_ hget;have HLT:=zK_ hlt;have HX0:=zK_ hx0;have bHp:=zK_ hcell;have HS_:=zK_ hS;clear hS hRx hs hset hget hlt hx0 hrow hsm;(go_wp2_with fail);refine(aC0.calls k _ _ x s _ HRi.out.2.2 HRi.out.2.1 HSM.out).mono ?_;rintro e w6 ⟨rfl,hd⟩;(have aYs:w6.cell? ⟨g,i,none⟩=some (.slice (some ⟨gr,0,none⟩) x.length cr):=by obtain⟨⟨n,rfl⟩⟩:=hd;exact bHp.out);have hS:=Kd.aFj HS_.out (aB8.below hd);have HB6:=zK_ (aA3 HBr.out (aB8.below hd));clear hcell hd;obtain⟨oki,cc6,_,hM6,hc6,bG1,hback⟩:=Kd.aRm hS ([]:List Int) (i:Int) p1 p2;obtain⟨vx6,bKk,hRx⟩:=hM6;subst bKk;replace hc6:=hc6 0 vx6 rfl;rw[Int.toNat_natCast,bLo.out]at hRx;rw[Int.toNat_natCast,show i*(Kd.slice 3 (Kd.int .i64)).sz+0=i from Nat.mul_one i,add_plain]at hc6;obtain rfl:=zdI (hc6.symm.trans aYs);rw[Int.toNat_natCast]at hback;(have q1:(0:Int)<=(0:Int):=by omega);(have hxq:(0:Int)<(x.length:Int):=by have:=HX0.out;omega);obtain⟨hmv,hmf⟩:=Kd.aEb 0 hRx (0:Int) q1 hxq;have hput:=Kd.aIb hRx (0:Int) (wrap64 (-s));rw[show (0:Int).toNat=0 from rfl]at hmv hmf hput;have hokr:oki gr:=hRx.1 gr rfl;have HBK:=zK_ (hback (w1:=w6.setCell ⟨gr,0,none⟩ (.int .i64 (wrap64 (-s)))) (x':=x.set 0 (wrap64 (-s))) hput.2 (λk_ e=>by injection e with e;rw[<-e];exact hokr) ⟨_,rfl,by have h_:=hput.1;exact h_⟩);have HGR:=zK_ (Kd.aCw hRx gr rfl);clear hback hput hRx hS bG1 hokr hc6 aYs;go_wp2;go_roundw
   case rel =>
    refine⟨i+1,by go_num,⟨HLT.out⟩,⟨aAi HB6.out HGR.out⟩,⟨?_⟩⟩;rw[<-bLj.out];exact HBK.out
   case measure =>
    have:=HLT.out;(simp[intOf]);omega
mutual
def aAz.j0:Nat->List Int->List Int->List Int->List Int->Bool->Int->List (S73)->Option (Bool)
 | 0,_,_,_,_,_,_,_=>none
 | k+1,x4,x5,x6,fK,PK,gF,jA=>if PK=true then(none) else((aAk.f k gF jA x6 fK).bind λsW=>((aBf.f k gF jA x5).bind λsV=>((aAk.f k gF jA x4 fK).bind λsU=>((aAd.f k gF jA).bind λsT=>(if sT.2=true then((aC9.f k gF jA).bind λu6=>(aAz.j1 k sW.1 sW.2 sV.1 sV.2 sU.1 sU.2 sT.2 ((sT.1.length:Int) != u6) gF jA)) else(aAz.j1 k sW.1 sW.2 sV.1 sV.2 sU.1 sU.2 sT.2 false gF jA))))))
def aAz.j1:Nat->List Int->Bool->List Int->Bool->List Int->Bool->Bool->Bool->Int->List (S73)->Option (Bool)
 | 0,_,_,_,_,_,_,_,_,_,_=>none
 | k+1,k5,fQ,oO,mL,lZ,kW,oZ,G0,gF,jA=>if G0=true then(none) else(if fQ=true then(if mL=true then(if kW=true then((aC2.f k k5 oO).bind λxZ=>(if xZ=true then(if 0<=gF then(if(gF:Int).toNat<=35184372088832 then((aC2.f k lZ (List.replicate (gF:Int).toNat 0)).bind λtG=>(if tG=true then(if oZ=true then(some true) else((aC9.f k gF jA).bind λtF=>(some (decide (tF>400))))) else(none))) else(none)) else(none)) else(none))) else(none)) else(none)) else(none))
end
def aAz.f (k:Nat) (l0:List Int):Option (Bool):=if(l0.length:Int)>1048576 then(some true) else((aD4.f k l0).bind λbS=>((aBy.f k l0 20 bS.1 bS.2).bind λb3=>((aBy.f k l0 40 bS.1 bS.2).bind λcV=>((aAk.f k bS.1 bS.2 b3 cV).bind λfO=>((aAk.f k bS.1 bS.2 cV b3).bind λqY=>((aBl.f k bS.1 bS.2 b3).bind λg9=>(if fO.2=true then(if qY.2=true then(if g9.2=true then((aC2.f k fO.1 qY.1).bind λiC=>(if iC=true then(if(fO.1.length:Int)=bS.1 then(if(g9.1.length:Int)=bS.1 then((aCl.f k fO.1).bind λkE=>(aAz.j0 k b3 cV fO.1 g9.1 (kE != 0) bS.1 bS.2)) else(aAz.j0 k b3 cV fO.1 g9.1 true bS.1 bS.2)) else(aAz.j0 k b3 cV fO.1 g9.1 true bS.1 bS.2)) else(aAz.j0 k b3 cV fO.1 g9.1 true bS.1 bS.2))) else(aAz.j0 k b3 cV fO.1 g9.1 true bS.1 bS.2)) else(aAz.j0 k b3 cV fO.1 g9.1 true bS.1 bS.2)) else(aAz.j0 k b3 cV fO.1 g9.1 true bS.1 bS.2))))))))
theorem aAz.aBa:∀ k,(∀ y0 y1 y2 y3 y4 y5 y6,LeO (aAz.j0 k y0 y1 y2 y3 y4 y5 y6) (aAz.j0 (k+1) y0 y1 y2 y3 y4 y5 y6))/\(∀ y0 y1 y2 y3 y4 y5 y6 y7 y8 y9,LeO (aAz.j1 k y0 y1 y2 y3 y4 y5 y6 y7 y8 y9) (aAz.j1 (k+1) y0 y1 y2 y3 y4 y5 y6 y7 y8 y9))
 | 0=>⟨λ_ _ _ _ _ _ _ r h=>by simp[aAz.j0]at h,λ_ _ _ _ _ _ _ _ _ _ r h=>by simp[aAz.j1]at h⟩
 | k+1=>by
  obtain⟨ih0,ih1⟩:=aAz.aBa k
  refine⟨?_,?_⟩
  ·intro y0 y1 y2 y3 y4 y5 y6
   unfold aAz.j0
   exact zm3
  ·intro y0 y1 y2 y3 y4 y5 y6 y7 y8 y9
   unfold aAz.j1
   exact zm3
theorem aAz.mono:∀ a0 k,LeO (aAz.f k a0) (aAz.f (k+1) a0):=by
 intro a0 k;obtain⟨ih0,ih1⟩:=aAz.aBa k;unfold aAz.f;exact zm3
theorem aAz.calls (k:Nat) (A0:Option Addr) (c0:Nat) (l0:List Int) (r:Bool) (w:World) (hr0:Kd.C (Kd.int .u8) w A0 l0.length l0) (hc0:l0.length<=c0) (h:aAz.f k l0=some r) :
  Calls Try.prog 6 #[.slice A0 l0.length c0] w λe w'=>e = .returned (.bool r)/\Below w.heap.size w w':=by
 have aIh:=Try.underlying25;have HR0:=zK_ hr0;have HC0:=zK_ hc0;clear hr0 hc0;have HB:=zK_ (Below.refl w.heap.size w);have H:(if(l0.length:Int)>1048576 then(some true) else((aD4.f k l0).bind λbS=>((aBy.f k l0 20 bS.1 bS.2).bind λb3=>((aBy.f k l0 40 bS.1 bS.2).bind λcV=>((aAk.f k bS.1 bS.2 b3 cV).bind λfO=>((aAk.f k bS.1 bS.2 cV b3).bind λqY=>((aBl.f k bS.1 bS.2 b3).bind λg9=>(if fO.2=true then(if qY.2=true then(if g9.2=true then((aC2.f k fO.1 qY.1).bind λiC=>(if iC=true then(if(fO.1.length:Int)=bS.1 then(if(g9.1.length:Int)=bS.1 then((aCl.f k fO.1).bind λkE=>(aAz.j0 k b3 cV fO.1 g9.1 (kE != 0) bS.1 bS.2)) else(aAz.j0 k b3 cV fO.1 g9.1 true bS.1 bS.2)) else(aAz.j0 k b3 cV fO.1 g9.1 true bS.1 bS.2)) else(aAz.j0 k b3 cV fO.1 g9.1 true bS.1 bS.2))) else(aAz.j0 k b3 cV fO.1 g9.1 true bS.1 bS.2)) else(aAz.j0 k b3 cV fO.1 g9.1 true bS.1 bS.2)) else(aAz.j0 k b3 cV fO.1 g9.1 true bS.1 bS.2)))))))))=some r:=h;clear h;by_cases c2:(l0.length:Int)>1048576
 ·rw[if_pos c2]at H;have mH:decide (1048576<(l0.length:Int))=true:=zdY c2;have rN:decide (1048576<l0.length)=true:=zdY (by omega);clear c2;obtain rfl:=zdI H;go_enter Try.func6,Try.ntmps6;go_wp2;go_ret;exact⟨zz9,zz2⟩
 rw[if_neg c2]at H;have mH:decide (1048576<(l0.length:Int))=false:=zdN c2;have rN:decide (1048576<l0.length)=false:=zdN (by omega);clear c2;replace H:=zO_ H;obtain⟨⟨bP,aX⟩,A30,H⟩:=H;dsimp only at H;have A3:=zK_ A30;clear A30;obtain⟨b3,A40,H⟩:=zO_ H;(try dsimp only at H);have A4:=zK_ A40;clear A40;obtain⟨cV,A50,H⟩:=zO_ H;(try dsimp only at H);have A5:=zK_ A50;clear A50;replace H:=zO_ H;obtain⟨⟨jD,gC⟩,A60,H⟩:=H;dsimp only at H;have A6:=zK_ A60;clear A60;replace H:=zO_ H;obtain⟨⟨rE,oA⟩,A70,H⟩:=H;dsimp only at H;have A7:=zK_ A70;clear A70;replace H:=zO_ H;obtain⟨⟨mD,kF⟩,A80,H⟩:=H;dsimp only at H;have A8:=zK_ A80;clear A80;have HC9:=zK_ H;clear H;go_enter Try.func6,Try.ntmps6;(go_upto_region 9 with (first|((with_reducible refine aAa (f:=26) rfl ?_);refine aBg (some 24) rfl rfl Try.func26 (by kernel_rfl) rfl #[.slice A0 l0.length c0] rfl zz3 ?_;(with_reducible refine(aD4.calls k _ _ l0 bP aX _ ?side1 ?side2 A3.out).mono ?_);(case side1=>exact aY9);(case side2=>exact HC0.out);rintro e w10 ⟨aWc,rfl,ho0,hb⟩;refine⟨_,rfl,?_⟩;have n_:=zA2 (Kd.aCm ho0 (aAj zz2)) (aA3 zz2 hb);clear HB;obtain⟨cQ,HB⟩:=n_;clear ho0 hb)|((with_reducible refine aAw (N:=3) rfl ?_);(try(refine aBu (by rfl) ?_;dsimp only));refine aAq ?hg (N:=3) ?hd (cs:=#[.int .i64 0,.slice none 0 0]) (t:=25) ?hr ?_;(case hd=>rfl);(case hg=>rfl);(case hr=>exact aDq);intro dY hg w11 hbox hb;have n_:=zA5 (Kd.aBp aMv hb) (aA3 zz2 hb) hbox (aE1:w.heap.size<=dY) (aE1:w.heap.size<=dY);clear cQ HB;obtain⟨cQ,HB,bD,bBx,aVm⟩:=n_;clear hb hbox hg;have kP:=aCg bD;have kO:=aCf bD;have kL:=aA0 bD.out 0;have kK:=aA0 bD.out 1;obtain⟨aFx,aEq,qL⟩:=Kd.aBe cQ.out;subst qL)|((with_reducible refine aAa (f:=27) rfl ?_);refine aBg (some 27) rfl rfl Try.func27 (by kernel_rfl) rfl #[.slice A0 l0.length c0,.int .i64 20,.agg #[.int .i64 bP,.slice aFx aX.length aEq]] rfl zz3 ?_;(with_reducible refine(aBy.calls k _ _ l0 20 bP _ _ aX b3 _ ?side1 ?side2 ?side3 ?side4 A4.out).mono ?_);(case side1=>exact Kd.aDj HR0.out aHc);(case side2=>exact HC0.out);(case side3=>refine(Kd.aAc (e:=73) (base:=w.heap.size) (ok:=λk_=>True) (n:=aX.length) (c:=aEq) ?_).2.2;exact bCs);(case side4=>exact(Kd.aAc cQ.out).2.1);rintro e w14 ⟨v107,rfl,ho0,hb⟩;refine⟨_,rfl,?_⟩;have n_:=zA4 (Kd.aBp bCs hb) (Kd.aCm ho0 (aAj aHc)) (aA4 (g:=dY) (o:=.cells #[.int .i64 bP,.slice aFx aX.length aEq] 25 (0,0)) (by(with_reducible repeat(first|refine aA6 ?_ _|refine aA9 ?_|refine aA7 ?_ _));refine aCy (cs:=#[.int .i64 bP,.slice none 0 0]) ?_ 1 _ rfl;(with_reducible repeat(first|refine aA6 ?_ _|refine aA9 ?_|refine aA7 ?_ _));refine aCy (cs:=#[.int .i64 0,.slice none 0 0]) ?_ 0 _ rfl;(with_reducible repeat(first|refine aA6 ?_ _|refine aA9 ?_|refine aA7 ?_ _));exact bD.out) hb) (aA3 aHc hb);clear cQ bD HB;obtain⟨cQ,gD,bD,HB⟩:=n_;clear ho0 hb;have eT:=aCg bD;have eS:=aCf bD;have eR:=aA0 bD.out 0;have eQ:=aA0 bD.out 1)|((with_reducible refine aAa (f:=27) rfl ?_);refine aBg (some 30) rfl rfl Try.func27 (by kernel_rfl) rfl #[.slice A0 l0.length c0,.int .i64 40,.agg #[.int .i64 bP,.slice aFx aX.length aEq]] rfl zz3 ?_;(with_reducible refine(aBy.calls k _ _ l0 40 bP _ _ aX cV _ ?side1 ?side2 ?side3 ?side4 A5.out).mono ?_);(case side1=>exact aW6);(case side2=>exact HC0.out);(case side3=>exact aZf);(case side4=>exact(Kd.aAc cQ.out).2.1);rintro e w16 ⟨aWb,rfl,ho0,hb⟩;refine⟨_,rfl,?_⟩;have n_:=zA5 (Kd.aBp aMv hb) (Kd.aBz aY7 (Kd.aCw ho0) hb) (Kd.aCm (Kd.aD2 ho0 (Kd.aEy aY7)) (aAj aHc)) (aA4 (g:=dY) (o:=.cells #[.int .i64 bP,.slice aFx aX.length aEq] 25 (0,0)) aLv hb) (aA3 aHc hb);clear cQ gD bD HB;obtain⟨cQ,gD,cF,bD,HB⟩:=n_;clear ho0 hb;have kN:=aCg bD;have kM:=aCf bD;have kJ:=aA0 bD.out 0;have kI:=aA0 bD.out 1;obtain⟨aZ3,aXt,wW⟩:=Kd.aBe gD.out;subst wW;obtain⟨bBy,bB9,LX⟩:=Kd.aBe cF.out;subst LX)|((with_reducible refine aAa (f:=28) rfl ?_);refine aBg (some 35) rfl rfl Try.func28 (by kernel_rfl) rfl #[.agg #[.int .i64 bP,.slice aFx aX.length aEq],.slice aZ3 b3.length aXt,.slice bBy cV.length bB9] rfl zz3 ?_;(with_reducible refine(aAk.calls k bP _ _ aX _ _ b3 _ _ cV jD gC _ ?side1 ?side2 ?side3 ?side4 ?side5 ?side6 A6.out).mono ?_);(case side1=>exact aZf);(case side2=>exact(Kd.aAc cQ.out).2.1);(case side3=>repeat(first|exact(Kd.aAc gD.out).2.2|(with_reducible refine Kd.aCr ?_ _)|(with_reducible refine Kd.aCq ?_ _)|(with_reducible refine Kd.aDf ?_)));(case side4=>exact(Kd.aAc gD.out).2.1);(case side5=>exact aYa);(case side6=>exact(Kd.aAc cF.out).2.1);rintro e w20 ⟨bFy,rfl,ho0,hb⟩;refine⟨_,rfl,?_⟩;have n_:=zA6 (Kd.aBp aMv hb) (Kd.aBz aY7 (Kd.aCw ho0) hb) (Kd.aBz aVv (Kd.aCw ho0) hb) (Kd.aCm (Kd.aD2 (Kd.aD2 ho0 (Kd.aEy aY7)) (Kd.aEy aVv)) (aAj aHc)) (aA4 (g:=dY) (o:=.cells #[.int .i64 bP,.slice aFx aX.length aEq] 25 (0,0)) aLv hb) (aA3 aHc hb);clear cQ gD cF bD HB;obtain⟨cQ,gD,cF,iB,bD,HB⟩:=n_;clear ho0 hb;have f5:=aCg bD;have f4:=aCf bD;have fY:=aA0 bD.out 0;have fX:=aA0 bD.out 1)|((with_reducible refine aAa (f:=28) rfl ?_);refine aBg (some 42) rfl rfl Try.func28 (by kernel_rfl) rfl #[.agg #[.int .i64 bP,.slice aFx aX.length aEq],.slice bBy cV.length bB9,.slice aZ3 b3.length aXt] rfl zz3 ?_;(with_reducible refine(aAk.calls k bP _ _ aX _ _ cV _ _ b3 rE oA _ ?side1 ?side2 ?side3 ?side4 ?side5 ?side6 A7.out).mono ?_);(case side1=>exact aZf);(case side2=>exact(Kd.aAc cQ.out).2.1);(case side3=>exact aYa);(case side4=>exact(Kd.aAc cF.out).2.1);(case side5=>repeat(first|exact(Kd.aAc gD.out).2.2|(with_reducible refine Kd.aCr ?_ _)|(with_reducible refine Kd.aCq ?_ _)|(with_reducible refine Kd.aDf ?_)));(case side6=>exact(Kd.aAc gD.out).2.1);rintro e w22 ⟨v117,rfl,ho0,hb⟩;refine⟨_,rfl,?_⟩;have n_:=zA7 (Kd.aBp aMv hb) (Kd.aBz aY7 (Kd.aCw ho0) hb) (Kd.aBz aVv (Kd.aCw ho0) hb) (Kd.aBz (by(with_reducible repeat(first|apply Kd.aAu|apply Kd.aAt|apply Kd.aB5));exact iB.out) (Kd.aCw ho0) hb) (Kd.aCm (Kd.aD2 (Kd.aD2 (Kd.aD2 ho0 (Kd.aEy aY7)) (Kd.aEy aVv)) (Kd.aEy (by(with_reducible repeat(first|apply Kd.aAu|apply Kd.aAt|apply Kd.aB5));exact iB.out))) (aAj aHc)) (aA4 (g:=dY) (o:=.cells #[.int .i64 bP,.slice aFx aX.length aEq] 25 (0,0)) aLv hb) (aA3 aHc hb);clear cQ gD cF iB bD HB;obtain⟨cQ,gD,cF,iB,i7,bD,HB⟩:=n_;clear ho0 hb;have gK:=aCg bD;have gJ:=aCf bD;have gI:=aA0 bD.out 0;have gH:=aA0 bD.out 1)|((with_reducible refine aAa (f:=29) rfl ?_);refine aBg (some 48) rfl rfl Try.func29 (by kernel_rfl) rfl #[.agg #[.int .i64 bP,.slice aFx aX.length aEq],.slice aZ3 b3.length aXt] rfl zz3 ?_;(with_reducible refine(aBl.calls k bP _ _ aX _ _ b3 mD kF _ ?side1 ?side2 ?side3 ?side4 A8.out).mono ?_);(case side1=>exact aZf);(case side2=>exact(Kd.aAc cQ.out).2.1);(case side3=>repeat(first|exact(Kd.aAc gD.out).2.2|(with_reducible refine Kd.aCr ?_ _)|(with_reducible refine Kd.aCq ?_ _)|(with_reducible refine Kd.aDf ?_)));(case side4=>exact(Kd.aAc gD.out).2.1);rintro e w24 ⟨bFx,rfl,ho0,hb⟩;refine⟨_,rfl,?_⟩;have n_:=zA8 (Kd.aBp aMv hb) (Kd.aBz aY7 (Kd.aCw ho0) hb) (Kd.aBz aVv (Kd.aCw ho0) hb) (Kd.aBz (by(with_reducible repeat(first|apply Kd.aAu|apply Kd.aAt|apply Kd.aB5));exact iB.out) (Kd.aCw ho0) hb) (Kd.aBz (by(with_reducible repeat(first|apply Kd.aAu|apply Kd.aAt|apply Kd.aB5));exact i7.out) (Kd.aCw ho0) hb) (Kd.aCm (Kd.aD2 (Kd.aD2 (Kd.aD2 (Kd.aD2 ho0 (Kd.aEy aY7)) (Kd.aEy aVv)) (Kd.aEy (by(with_reducible repeat(first|apply Kd.aAu|apply Kd.aAt|apply Kd.aB5));exact iB.out))) (Kd.aEy (by(with_reducible repeat(first|apply Kd.aAu|apply Kd.aAt|apply Kd.aB5));exact i7.out))) (aAj aHc)) (aA4 (g:=dY) (o:=.cells #[.int .i64 bP,.slice aFx aX.length aEq] 25 (0,0)) aLv hb) (aA3 aHc hb);clear cQ gD cF iB i7 bD HB;obtain⟨cQ,gD,cF,iB,i7,uP,bD,HB⟩:=n_;clear ho0 hb)));(try simp only[Act.put,List.setIfInBounds_toArray,List.set_cons_zero,List.set_cons_succ]);go_cut [85] (λv85 wc=>∃ (kq:Nat) (rO:Bool),v85 = .bool rO/\aA1 (aAz.j0 kq b3 cV jD mD rO bP aX=some r)/\aA1 (kq<=k)/\aA1 (Kd.R (Kd.int .i64) 3 wc w.heap.size (λk_=>some k_≠((.slice bBy cV.length bB9):Value).ownBlock/\some k_≠(bFy:Value).ownBlock/\some k_≠(bFx:Value).ownBlock) (.slice aZ3 b3.length aXt) b3)/\aA1 (Kd.R (Kd.int .i64) 3 wc w.heap.size (λk_=>some k_≠((.slice aZ3 b3.length aXt):Value).ownBlock/\some k_≠(bFy:Value).ownBlock/\some k_≠(bFx:Value).ownBlock) (.slice bBy cV.length bB9) cV)/\aA1 (Kd.R (Kd.int .i64) 3 wc w.heap.size (λk_=>some k_≠((.slice aZ3 b3.length aXt):Value).ownBlock/\some k_≠((.slice bBy cV.length bB9):Value).ownBlock/\some k_≠(bFx:Value).ownBlock) bFy jD)/\aA1 (Kd.R (Kd.int .i64) 3 wc w.heap.size (λk_=>some k_≠((.slice aZ3 b3.length aXt):Value).ownBlock/\some k_≠((.slice bBy cV.length bB9):Value).ownBlock/\some k_≠(bFy:Value).ownBlock) bFx mD)/\aA1 (Kd.R k73 73 wc w.heap.size (λ_=>True) (.slice aFx aX.length aEq) aX)/\aA1 (wc.heap[dY]? = some (.cells #[.int .i64 bP,(.slice aFx aX.length aEq)] 25 (0,0)))/\aA1 (Below w.heap.size w wc))
 case first =>
  have H:=HC9.out;clear HC9;by_cases c25:gC=true;rotate_left
  ·replace c25:=zdB c25;subst c25;rw[if_neg (show ¬ (false=true) by decide)]at H;have H':=zK_ H;clear H;go_wp2;(go_meet);case rel=>exact⟨_,(true),zz5,H',⟨by first|omega|exact Nat.le_refl _⟩,⟨aZd⟩,⟨aZc⟩,⟨aZb⟩,⟨aZe⟩,⟨aMv⟩,⟨aLv⟩,⟨aHc⟩⟩
  subst c25;rw[if_pos rfl]at H;by_cases c26:oA=true;rotate_left
  ·replace c26:=zdB c26;subst c26;rw[if_neg (show ¬ (false=true) by decide)]at H;have H':=zK_ H;clear H;go_wp2;(go_meet);case rel=>exact⟨_,(true),zz5,H',⟨by first|omega|exact Nat.le_refl _⟩,⟨aZd⟩,⟨aZc⟩,⟨aZb⟩,⟨aZe⟩,⟨aMv⟩,⟨aLv⟩,⟨aHc⟩⟩
  subst c26;rw[if_pos rfl]at H;by_cases c27:kF=true;rotate_left
  ·replace c27:=zdB c27;subst c27;rw[if_neg (show ¬ (false=true) by decide)]at H;have H':=zK_ H;clear H;go_wp2;(go_meet);case rel=>exact⟨_,(true),zz5,H',⟨by first|omega|exact Nat.le_refl _⟩,⟨aZd⟩,⟨aZc⟩,⟨aZb⟩,⟨aZe⟩,⟨aMv⟩,⟨aLv⟩,⟨aHc⟩⟩
  subst c27;rw[if_pos rfl]at H;obtain⟨iC,bJl,H⟩:=zO_ H;(try dsimp only at H);have A28:=zK_ bJl;clear bJl;by_cases c29:iC=true;rotate_left
  ·replace c29:=zdB c29;subst c29;rw[if_neg (show ¬ (false=true) by decide)]at H;have H':=zK_ H;clear H;obtain⟨bNn,bMy,LR⟩:=Kd.aBe iB.out;subst LR;obtain⟨bNm,bMx,LQ⟩:=Kd.aBe i7.out;subst LQ;(go_wp2_with (first|(go_at_call 30;(with_reducible refine(aC2.calls k _ _ jD _ _ rE false _ ?side1 ?side2 ?side3 ?side4 A28.out).mono ?_);(case side1=>exact bCn);(case side2=>exact(Kd.aAc iB.out).2.1);(case side3=>exact aW5);(case side4=>exact(Kd.aAc i7.out).2.1);rintro e w' ⟨rfl,⟨nd,rfl⟩⟩)));(go_meet);case rel=>exact⟨_,(true),zz5,H',⟨by first|omega|exact Nat.le_refl _⟩,⟨aZd⟩,⟨aZc⟩,⟨aZb⟩,⟨aZe⟩,⟨aMv⟩,⟨aLv⟩,⟨aHc⟩⟩
  subst c29;rw[if_pos rfl]at H;by_cases c30:(jD.length:Int)=bP;rotate_left
  ·rw[if_neg c30]at H;have nD:((jD.length:Int)==bP)=false:=beq_eq_false_iff_ne.mpr c30;have uD:((jD.length:Int) != bP)=true:=bne_iff_ne.mpr c30;(first|rw[nD]|(simp only[aF0,aK5];rw[nD])|skip);have H':=zK_ H;clear H;obtain⟨bNo,bMz,LS⟩:=Kd.aBe iB.out;subst LS;obtain⟨bHv,bCg,rK⟩:=Kd.aBe i7.out;subst rK;(go_wp2_with (first|(go_at_call 30;(with_reducible refine(aC2.calls k _ _ jD _ _ rE true _ ?side1 ?side2 ?side3 ?side4 A28.out).mono ?_);(case side1=>exact bCn);(case side2=>exact(Kd.aAc iB.out).2.1);(case side3=>exact aW5);(case side4=>exact(Kd.aAc i7.out).2.1);rintro e w' ⟨rfl,⟨nd,rfl⟩⟩;have mR:=aCg bD;have mQ:=aCf bD;have mN:=aA0 bD.out 0;have mM:=aA0 bD.out 1)));(go_meet);case rel=>exact⟨_,(true),zz5,H',⟨by first|omega|exact Nat.le_refl _⟩,⟨aZd⟩,⟨aZc⟩,⟨aZb⟩,⟨aZe⟩,⟨aMv⟩,⟨aLv⟩,⟨aHc⟩⟩
  rw[if_pos c30]at H;have nD:((jD.length:Int)==bP)=true:=beq_iff_eq.mpr c30;have uD:((jD.length:Int) != bP)=false:=bne_eq_false_iff_eq.mpr c30;clear c30;(first|rw[nD]|(simp only[aF0,aK5];rw[nD])|skip);by_cases c31:(mD.length:Int)=bP;rotate_left
  ·rw[if_neg c31]at H;have k9:((mD.length:Int)==bP)=false:=beq_eq_false_iff_ne.mpr c31;have oQ:((mD.length:Int) != bP)=true:=bne_iff_ne.mpr c31;have H':=zK_ H;clear H;obtain⟨bNp,bN0,LT⟩:=Kd.aBe iB.out;subst LT;obtain⟨aMu,aMp,t8⟩:=Kd.aBe i7.out;subst t8;(go_wp2_with (first|(go_at_call 30;(with_reducible refine(aC2.calls k _ _ jD _ _ rE true _ ?side1 ?side2 ?side3 ?side4 A28.out).mono ?_);(case side1=>exact bCn);(case side2=>exact(Kd.aAc iB.out).2.1);(case side3=>exact aW5);(case side4=>exact(Kd.aAc i7.out).2.1);rintro e w' ⟨rfl,⟨nd,rfl⟩⟩;have lS:=aCg bD;have lR:=aCf bD;have lK:=aA0 bD.out 0;have lJ:=aA0 bD.out 1;obtain⟨aY5,aPf,t7⟩:=Kd.aBe uP.out;subst t7)));(go_meet);case rel=>exact⟨_,(true),zz5,H',⟨by first|omega|exact Nat.le_refl _⟩,⟨aZd⟩,⟨aZc⟩,⟨aZb⟩,⟨aZe⟩,⟨aMv⟩,⟨aLv⟩,⟨aHc⟩⟩
  rw[if_pos c31]at H;have k9:((mD.length:Int)==bP)=true:=beq_iff_eq.mpr c31;have oQ:((mD.length:Int) != bP)=false:=bne_eq_false_iff_eq.mpr c31;clear c31;obtain⟨kE,bJk,H⟩:=zO_ H;(try dsimp only at H);have A32:=zK_ bJk;clear bJk;have H':=zK_ H;clear H;obtain⟨bNq,bN1,LU⟩:=Kd.aBe iB.out;subst LU;obtain⟨bLv,bLa,yK⟩:=Kd.aBe i7.out;subst yK;(go_wp2_with (first|(go_at_call 30;(with_reducible refine(aC2.calls k _ _ jD _ _ rE true _ ?side1 ?side2 ?side3 ?side4 A28.out).mono ?_);(case side1=>exact bCn);(case side2=>exact(Kd.aAc iB.out).2.1);(case side3=>exact aW5);(case side4=>exact(Kd.aAc i7.out).2.1);rintro e w' ⟨rfl,⟨nd,rfl⟩⟩;have g8:=aCg bD;have g7:=aCf bD;have g6:=aA0 bD.out 0;have g5:=aA0 bD.out 1;obtain⟨bHw,bH9,rL⟩:=Kd.aBe uP.out;subst rL)|(go_at_call 31;(with_reducible refine(aCl.calls k _ _ jD kE _ ?side1 ?side2 A32.out).mono ?_);(case side1=>exact bCn);(case side2=>exact(Kd.aAc iB.out).2.1);rintro e w' ⟨rfl,⟨nd,rfl⟩⟩)));(go_meet);case rel=>exact⟨_,((kE != 0)),zz5,H',⟨by first|omega|exact Nat.le_refl _⟩,⟨aZd⟩,⟨aZc⟩,⟨aZb⟩,⟨aZe⟩,⟨aMv⟩,⟨aLv⟩,⟨aHc⟩⟩
 case rest =>
  clear HC9;(try clear c2);(try clear mH);(try clear rN);(try clear p2);(try clear c3);(try clear c6);(try clear c25);(try clear c26);(try clear c27);(try clear c28);(try clear c29);(try clear c30);(try clear nD);(try clear uD);(try clear c31);(try clear k9);(try clear oQ);(try clear kP);(try clear kO);(try clear eT);(try clear eS);(try clear kN);(try clear kM);(try clear f5);(try clear f4);(try clear gK);(try clear gJ);(try clear g8);(try clear g7);(try clear lS);(try clear lR);(try clear mR);(try clear mQ);(try clear kL);(try clear kK);(try clear eR);(try clear eQ);(try clear kJ);(try clear kI);(try clear fY);(try clear fX);(try clear gI);(try clear gH);(try clear g6);(try clear g5);(try clear lK);(try clear lJ);(try clear mN);(try clear mM);obtain⟨kq,rO,rfl,HA,HJ8,nA,dF,m3,i6,b4,bD,HB⟩:=hcut
  cases kq with
  | zero=>exact absurd HA.out (by simp[aAz.j0])
  | succ kj8 =>
   have H:=HA.out;clear HA;simp only[aAz.j0]at H;by_cases c46:rO=true
   ·subst c46;rw[if_pos rfl]at H;exact absurd H (by simp)
   replace c46:=zdB c46;subst c46;rw[if_neg (show ¬ (false=true) by decide)]at H;replace H:=zO_ H;obtain⟨⟨kY,yC⟩,bJf,H⟩:=H;dsimp only at H;have A47:=zK_ bJf;clear bJf;replace H:=zO_ H;obtain⟨⟨tI,yB⟩,bJe,H⟩:=H;dsimp only at H;have A48:=zK_ bJe;clear bJe;replace H:=zO_ H;obtain⟨⟨tA,yA⟩,bFn,H⟩:=H;dsimp only at H;have A49:=zK_ bFn;clear bFn;replace H:=zO_ H;obtain⟨⟨zE,tH⟩,bJd,H⟩:=H;dsimp only at H;have A50:=zK_ bJd;clear bJd;have bHq:=zK_ H;clear H;have wJ:=aCg bD;have wI:=aCf bD;have vO:=aA0 bD.out 0;have vN:=aA0 bD.out 1;obtain⟨bLu,bL9,LP⟩:=Kd.aBe m3.out;subst LP;obtain⟨bJ4,bIl,LO⟩:=Kd.aBe i6.out;subst LO;(go_upto_region 15 with (first|((with_reducible refine aAa (f:=28) rfl ?_);refine aBg (some 90) rfl rfl Try.func28 (by kernel_rfl) rfl #[.agg #[.int .i64 bP,.slice aFx aX.length aEq],.slice bLu jD.length bL9,.slice bJ4 mD.length bIl] rfl zz3 ?_;(with_reducible refine(aAk.calls kj8 bP _ _ aX _ _ jD _ _ mD kY yC _ ?side1 ?side2 ?side3 ?side4 ?side5 ?side6 A47.out).mono ?_);(case side1=>exact bC5);(case side2=>exact(Kd.aAc b4.out).2.1);(case side3=>repeat(first|exact(Kd.aAc m3.out).2.2|(with_reducible refine Kd.aCr ?_ _)|(with_reducible refine Kd.aCq ?_ _)|(with_reducible refine Kd.aDf ?_)));(case side4=>exact(Kd.aAc m3.out).2.1);(case side5=>repeat(first|exact(Kd.aAc i6.out).2.2|(with_reducible refine Kd.aCr ?_ _)|(with_reducible refine Kd.aCq ?_ _)|(with_reducible refine Kd.aDf ?_)));(case side6=>exact(Kd.aAc i6.out).2.1);rintro e w55 ⟨v127,rfl,ho0,hb⟩;refine⟨_,rfl,?_⟩;have n_:=zA8 (Kd.aBz aVt (Kd.aCw ho0) hb) (Kd.aBz aPh (Kd.aCw ho0) hb) (Kd.aBz aVs (Kd.aCw ho0) hb) (Kd.aBz aVu (Kd.aCw ho0) hb) (Kd.aBp aY8 hb) (Kd.aCm (Kd.aD2 (Kd.aD2 (Kd.aD2 (Kd.aD2 ho0 (Kd.aEy aVt)) (Kd.aEy aPh)) (Kd.aEy aVs)) (Kd.aEy aVu)) (aAj aHc)) (aA4 (g:=dY) (o:=.cells #[.int .i64 bP,.slice aFx aX.length aEq] 25 (0,0)) aLv hb) (aA3 aHc hb);clear nA dF m3 i6 b4 bD HB;obtain⟨nA,dF,m3,i6,b4,lD,bD,HB⟩:=n_;clear ho0 hb;have wH:=aCg bD;have wG:=aCf bD;have vM:=aA0 bD.out 0;have vK:=aA0 bD.out 1)|((with_reducible refine aAa (f:=32) rfl ?_);refine aBg (some 96) rfl rfl Try.func32 (by kernel_rfl) rfl #[.agg #[.int .i64 bP,.slice aFx aX.length aEq],.slice bBy cV.length bB9] rfl zz3 ?_;(with_reducible refine(aBf.calls kj8 bP _ _ aX _ _ cV tI yB _ ?side1 ?side2 ?side3 ?side4 A48.out).mono ?_);(case side1=>exact bC5);(case side2=>exact(Kd.aAc b4.out).2.1);(case side3=>repeat(first|exact(Kd.aAc dF.out).2.2|(with_reducible refine Kd.aCr ?_ _)|(with_reducible refine Kd.aCq ?_ _)|(with_reducible refine Kd.aDf ?_)));(case side4=>exact(Kd.aAc dF.out).2.1);rintro e w57 ⟨v131,rfl,ho0,hb⟩;refine⟨_,rfl,?_⟩;have n_:=zA9 (Kd.aBz aVt (Kd.aCw ho0) hb) (Kd.aBz aPh (Kd.aCw ho0) hb) (Kd.aBz aVs (Kd.aCw ho0) hb) (Kd.aBz aVu (Kd.aCw ho0) hb) (Kd.aBp aY8 hb) (Kd.aBz aZ8 (Kd.aCw ho0) hb) (Kd.aCm (Kd.aD2 (Kd.aD2 (Kd.aD2 (Kd.aD2 (Kd.aD2 ho0 (Kd.aEy aVt)) (Kd.aEy aPh)) (Kd.aEy aVs)) (Kd.aEy aVu)) (Kd.aEy aZ8)) (aAj aHc)) (aA4 (g:=dY) (o:=.cells #[.int .i64 bP,.slice aFx aX.length aEq] 25 (0,0)) aLv hb) (aA3 aHc hb);clear nA dF m3 i6 b4 lD bD HB;obtain⟨nA,dF,m3,i6,b4,lD,m5,bD,HB⟩:=n_;clear ho0 hb;have wF:=aCg bD;have wD:=aCf bD;have vJ:=aA0 bD.out 0;have vI:=aA0 bD.out 1)|((with_reducible refine aAa (f:=28) rfl ?_);refine aBg (some 103) rfl rfl Try.func28 (by kernel_rfl) rfl #[.agg #[.int .i64 bP,.slice aFx aX.length aEq],.slice aZ3 b3.length aXt,.slice bJ4 mD.length bIl] rfl zz3 ?_;(with_reducible refine(aAk.calls kj8 bP _ _ aX _ _ b3 _ _ mD tA yA _ ?side1 ?side2 ?side3 ?side4 ?side5 ?side6 A49.out).mono ?_);(case side1=>exact bC5);(case side2=>exact(Kd.aAc b4.out).2.1);(case side3=>repeat(first|exact(Kd.aAc nA.out).2.2|(with_reducible refine Kd.aCr ?_ _)|(with_reducible refine Kd.aCq ?_ _)|(with_reducible refine Kd.aDf ?_)));(case side4=>exact(Kd.aAc nA.out).2.1);(case side5=>repeat(first|exact(Kd.aAc i6.out).2.2|(with_reducible refine Kd.aCr ?_ _)|(with_reducible refine Kd.aCq ?_ _)|(with_reducible refine Kd.aDf ?_)));(case side6=>exact(Kd.aAc i6.out).2.1);rintro e w59 ⟨bGn,rfl,ho0,hb⟩;refine⟨_,rfl,?_⟩;have n_:=bCa (Kd.aBz aVt (Kd.aCw ho0) hb) (Kd.aBz aPh (Kd.aCw ho0) hb) (Kd.aBz aVs (Kd.aCw ho0) hb) (Kd.aBz aVu (Kd.aCw ho0) hb) (Kd.aBp aY8 hb) (Kd.aBz aZ8 (Kd.aCw ho0) hb) (Kd.aBz aT6 (Kd.aCw ho0) hb) (Kd.aCm (Kd.aD2 (Kd.aD2 (Kd.aD2 (Kd.aD2 (Kd.aD2 (Kd.aD2 ho0 (Kd.aEy aVt)) (Kd.aEy aPh)) (Kd.aEy aVs)) (Kd.aEy aVu)) (Kd.aEy aZ8)) (Kd.aEy aT6)) (aAj aHc)) (aA4 (g:=dY) (o:=.cells #[.int .i64 bP,.slice aFx aX.length aEq] 25 (0,0)) aLv hb) (aA3 aHc hb);clear nA dF m3 i6 b4 lD m5 bD HB;obtain⟨nA,dF,m3,i6,b4,lD,m5,m4,bD,HB⟩:=n_;clear ho0 hb;have sF:=aCg bD;have sE:=aCf bD;have r7:=aA0 bD.out 0;have r6:=aA0 bD.out 1)|((with_reducible refine aAa (f:=33) rfl ?_);refine aBg (some 108) rfl rfl Try.func33 (by kernel_rfl) rfl #[.agg #[.int .i64 bP,.slice aFx aX.length aEq]] rfl zz3 ?_;(with_reducible refine(aAd.calls kj8 bP _ _ aX zE tH _ ?side1 ?side2 A50.out).mono ?_);(case side1=>exact bC5);(case side2=>exact(Kd.aAc b4.out).2.1);rintro e w61 ⟨v139,rfl,ho0,hb⟩;refine⟨_,rfl,?_⟩;have n_:=bGm (Kd.aBp aVt hb) (Kd.aBp aPh hb) (Kd.aBp aVs hb) (Kd.aBp aVu hb) (Kd.aBp aY8 hb) (Kd.aBp aZ8 hb) (Kd.aBp aT6 hb) (Kd.aBp (by(with_reducible repeat(first|apply Kd.aAu|apply Kd.aAt|apply Kd.aB5));exact m4.out) hb) (Kd.aNn (Kd.aLr (Kd.aLr (Kd.aLr (Kd.aLr (Kd.aLr (Kd.aLr (Kd.aLr ho0 (Kd.aEy aVt)) (Kd.aEy aPh)) (Kd.aEy aVs)) (Kd.aEy aVu)) (Kd.aEy aZ8)) (Kd.aEy aT6)) (Kd.aEy (by(with_reducible repeat(first|apply Kd.aAu|apply Kd.aAt|apply Kd.aB5));exact m4.out))) (aAj aHc)) (aA4 (g:=dY) (o:=.cells #[.int .i64 bP,.slice aFx aX.length aEq] 25 (0,0)) aLv hb) (aA3 aHc hb);clear nA dF m3 i6 b4 lD m5 m4 bD HB;obtain⟨nA,dF,m3,i6,b4,lD,m5,m4,sZ,bD,HB⟩:=n_;clear ho0 hb)));(try simp only[Act.put,List.setIfInBounds_toArray,List.set_cons_zero,List.set_cons_succ]);go_cut [118] (λbJs wc=>∃ (kq:Nat) (nJ:Bool),bJs = .bool nJ/\aA1 (aAz.j1 kq kY yC tI yB tA yA tH nJ bP aX=some r)/\aA1 (kq<=kj8)/\aA1 (Kd.R (Kd.int .i64) 3 wc w.heap.size (λk_=>some k_≠(v131:Value).ownBlock/\some k_≠(bGn:Value).ownBlock) v127 kY)/\aA1 (Kd.R (Kd.int .i64) 3 wc w.heap.size (λk_=>some k_≠(v127:Value).ownBlock/\some k_≠(bGn:Value).ownBlock) v131 tI)/\aA1 (Kd.R (Kd.int .i64) 3 wc w.heap.size (λk_=>some k_≠(v127:Value).ownBlock/\some k_≠(v131:Value).ownBlock) bGn tA)/\aA1 (Kd.R k73 73 wc w.heap.size (λ_=>True) (.slice aFx aX.length aEq) aX)/\aA1 (wc.heap[dY]? = some (.cells #[.int .i64 bP,(.slice aFx aX.length aEq)] 25 (0,0)))/\aA1 (Below w.heap.size w wc))
   case first =>
    have H:=bHq.out;clear bHq;by_cases c62:tH=true;rotate_left
    ·replace c62:=zdB c62;subst c62;rw[if_neg (show ¬ (false=true) by decide)]at H;have H':=zK_ H;clear H;go_wp2;(go_meet);case rel=>exact⟨_,(false),zz5,H',⟨by have:=HJ8.out;first|omega|exact Nat.le_refl _⟩,⟨by(with_reducible repeat(first|apply Kd.aAu|apply Kd.aAt|apply Kd.aB5));exact Kd.aBh lD.out (λ_ hk=>⟨hk.1.2,hk.2⟩)⟩,⟨by(with_reducible repeat(first|apply Kd.aAu|apply Kd.aAt|apply Kd.aB5));exact Kd.aBh m5.out (λ_ hk=>⟨hk.1.2,hk.2⟩)⟩,⟨by(with_reducible repeat(first|apply Kd.aAu|apply Kd.aAt|apply Kd.aB5));exact Kd.aBh m4.out (λ_ hk=>⟨hk.1.2,hk.2⟩)⟩,⟨by(with_reducible repeat(first|apply Kd.aAu|apply Kd.aAt|apply Kd.aB5));exact b4.out⟩,⟨aLv⟩,⟨aHc⟩⟩
    subst c62;rw[if_pos rfl]at H;obtain⟨u6,bJa,H⟩:=zO_ H;(try dsimp only at H);have A63:=zK_ bJa;clear bJa;have H':=zK_ H;clear H;obtain⟨bLt,bL8,yJ⟩:=Kd.aJq sZ.out;subst yJ;have wB:=aCg bD;have vZ:=aCf bD;have vH:=aA0 bD.out 0;have vG:=aA0 bD.out 1;(go_wp2_with (first|(go_at_call 34;(with_reducible refine(aC9.calls kj8 bP _ _ aX u6 _ ?side1 ?side2 A63.out).mono ?_);(case side1=>exact bC5);(case side2=>exact(Kd.aAc b4.out).2.1);rintro e w66 ⟨rfl,hb⟩;have n_:=bGm (Kd.aBp aVt hb) (Kd.aBp aPh hb) (Kd.aBp aVs hb) (Kd.aBp aVu hb) (Kd.aBp aY8 hb) (Kd.aBp aZ8 hb) (Kd.aBp aT6 hb) (Kd.aBp (by(with_reducible repeat(first|apply Kd.aAu|apply Kd.aAt|apply Kd.aB5));exact m4.out) hb) (Kd.aFj (by(with_reducible repeat(first|apply Kd.aFv|apply Kd.aFu|apply Kd.aH7));exact sZ.out) hb) (aA4 (g:=dY) (o:=.cells #[.int .i64 bP,.slice aFx aX.length aEq] 25 (0,0)) aLv hb) (aA3 aHc hb);clear nA dF m3 i6 b4 lD m5 m4 sZ bD HB;obtain⟨nA,dF,m3,i6,b4,lD,m5,m4,sZ,bD,HB⟩:=n_;(try clear hb);(try clear hb2);(try clear hk);(try clear hi))));(go_meet);case rel=>exact⟨_,(((zE.length:Int) != u6)),zz5,H',⟨by have:=HJ8.out;first|omega|exact Nat.le_refl _⟩,⟨by(with_reducible repeat(first|apply Kd.aAu|apply Kd.aAt|apply Kd.aB5));exact Kd.aBh lD.out (λ_ hk=>⟨hk.1.2,hk.2⟩)⟩,⟨by(with_reducible repeat(first|apply Kd.aAu|apply Kd.aAt|apply Kd.aB5));exact Kd.aBh m5.out (λ_ hk=>⟨hk.1.2,hk.2⟩)⟩,⟨by(with_reducible repeat(first|apply Kd.aAu|apply Kd.aAt|apply Kd.aB5));exact Kd.aBh m4.out (λ_ hk=>⟨hk.1.2,hk.2⟩)⟩,⟨by(with_reducible repeat(first|apply Kd.aAu|apply Kd.aAt|apply Kd.aB5));exact b4.out⟩,⟨aLv⟩,⟨aHc⟩⟩
   case rest =>
    clear bHq;(try clear c2);(try clear mH);(try clear rN);(try clear p2);(try clear c3);(try clear c4);(try clear c6);(try clear c25);(try clear c26);(try clear c27);(try clear c28);(try clear c29);(try clear c30);(try clear nD);(try clear uD);(try clear c31);(try clear k9);(try clear oQ);(try clear c32);(try clear c33);(try clear c46);(try clear c62);(try clear kP);(try clear kO);(try clear eT);(try clear eS);(try clear kN);(try clear kM);(try clear f5);(try clear f4);(try clear gK);(try clear gJ);(try clear g8);(try clear g7);(try clear lS);(try clear lR);(try clear mR);(try clear mQ);(try clear wJ);(try clear wI);(try clear wH);(try clear wG);(try clear wF);(try clear wD);(try clear sF);(try clear sE);(try clear wB);(try clear vZ);(try clear kL);(try clear kK);(try clear eR);(try clear eQ);(try clear kJ);(try clear kI);(try clear fY);(try clear fX);(try clear gI);(try clear gH);(try clear g6);(try clear g5);(try clear lK);(try clear lJ);(try clear mN);(try clear mM);(try clear vO);(try clear vN);(try clear vM);(try clear vK);(try clear vJ);(try clear vI);(try clear r7);(try clear r6);(try clear vH);(try clear vG);(try clear p2);obtain⟨kq,nJ,rfl,HA,bNb,kB,kA,j9,b4,bD,HB⟩:=hcut
    cases kq with
    | zero=>exact absurd HA.out (by simp[aAz.j1])
    | succ bAl =>
     have H:=HA.out;clear HA;simp only[aAz.j1]at H;by_cases c67:nJ=true
     ·subst c67;rw[if_pos rfl]at H;exact absurd H (by simp)
     replace c67:=zdB c67;subst c67;rw[if_neg (show ¬ (false=true) by decide)]at H;by_cases c68:yC=true;rotate_left
     ·replace c68:=zdB c68;subst c68;rw[if_neg (show ¬ (false=true) by decide)]at H;exact absurd H (by simp)
     subst c68;rw[if_pos rfl]at H;by_cases c69:yB=true;rotate_left
     ·replace c69:=zdB c69;subst c69;rw[if_neg (show ¬ (false=true) by decide)]at H;exact absurd H (by simp)
     subst c69;rw[if_pos rfl]at H;by_cases c70:yA=true;rotate_left
     ·replace c70:=zdB c70;subst c70;rw[if_neg (show ¬ (false=true) by decide)]at H;exact absurd H (by simp)
     subst c70;rw[if_pos rfl]at H;obtain⟨xZ,bJ9,H⟩:=zO_ H;(try dsimp only at H);have A71:=zK_ bJ9;clear bJ9;by_cases c72:xZ=true;rotate_left
     ·replace c72:=zdB c72;subst c72;rw[if_neg (show ¬ (false=true) by decide)]at H;exact absurd H (by simp)
     subst c72;rw[if_pos rfl]at H;by_cases c73:0<=bP;rotate_left
     ·rw[if_neg c73]at H;exact absurd H (by simp)
     rw[if_pos c73]at H;have O5:=eq_true c73;have O4:decide (0<=bP)=true:=zdY c73;clear c73;by_cases c74:(bP:Int).toNat<=35184372088832;rotate_left
     ·rw[if_neg c74]at H;exact absurd H (by simp)
     rw[if_pos c74]at H;have O3:=eq_true c74;have O2:decide ((bP:Int).toNat<=35184372088832)=true:=zdY c74;clear c74;obtain⟨xV,hy_⟩:∃ y_:List Int,y_=(List.replicate (bP:Int).toNat 0):=⟨_,rfl⟩;(replace H:((aC2.f bAl tA xV).bind λtG=>(if tG=true then(if tH=true then(some true) else((aC9.f bAl bP aX).bind λtF=>(some (decide (tF>400))))) else(none)))=some r:=zzY);have sY:=zK_ hy_;clear hy_;obtain⟨tG,bJ8,H⟩:=zO_ H;(try dsimp only at H);have A75:=zK_ bJ8;clear bJ8;by_cases c76:tG=true;rotate_left
     ·replace c76:=zdB c76;subst c76;rw[if_neg (show ¬ (false=true) by decide)]at H;exact absurd H (by simp)
     subst c76;rw[if_pos rfl]at H;by_cases c77:tH=true
     ·subst c77;rw[if_pos rfl]at H;obtain rfl:=zdI H;obtain⟨bNi,bMu,LI⟩:=Kd.aBe kB.out;subst LI;obtain⟨bNh,bMt,LH⟩:=Kd.aBe kA.out;subst LH;(go_wp2_with (first|(go_at_call 30;(with_reducible refine(aC2.calls bAl _ _ kY _ _ tI true _ ?side1 ?side2 ?side3 ?side4 A71.out).mono ?_);(case side1=>repeat(first|exact(Kd.aAc kB.out).2.2|(with_reducible refine Kd.aCr ?_ _)|(with_reducible refine Kd.aCq ?_ _)|(with_reducible refine Kd.aDf ?_)));(case side2=>exact(Kd.aAc kB.out).2.1);(case side3=>repeat(first|exact(Kd.aAc kA.out).2.2|(with_reducible refine Kd.aCr ?_ _)|(with_reducible refine Kd.aCq ?_ _)|(with_reducible refine Kd.aDf ?_)));(case side4=>exact(Kd.aAc kA.out).2.1);rintro e w' ⟨rfl,⟨nd,rfl⟩⟩;have vY:=aCg bD;have vX:=aCf bD;have vF:=aA0 bD.out 0;have vB:=aA0 bD.out 1)|((with_reducible refine aAw (N:=135) rfl ?_);(try(refine aBu (by rfl) ?_;dsimp only));refine Kd.aRn (Kd.int .i64) _ 3 rfl (N:=135) rfl 42 _ _ rfl bP rfl rfl Try.underlying42 (.int .i64 0) 8 info3 rfl (by decide) (by omega) 0 (ok:=λ_=>True) (okp:=λ_=>True) rfl (λ_ hk=>hk) trivial (zdT zz4) (Nat.le_trans (Nat.mul_le_mul_right _ (zdT zz4:bP.toNat<=35184372088832)) (by omega)) (Below.refl _ _) (Nat.le_refl _) ?_;intro v145 w81 aYr hb hg_ aGn;clear hg_ aGn;(first|rw[<-sY.out]at aYr|(simp only[Int.reduceToNat]at aYr;rw[<-sY.out]at aYr));have n_:=zA7 (Kd.aBz aT5 (Kd.aCw aYr) hb) (Kd.aBz aT4 (Kd.aCw aYr) hb) (Kd.aBz aT3 (Kd.aCw aYr) hb) (Kd.aBp aY8 hb) (Kd.aCm (Kd.aD2 (Kd.aD2 (Kd.aD2 aYr (Kd.aEy aT5)) (Kd.aEy aT4)) (Kd.aEy aT3)) (aAj aHc)) (aA4 (g:=dY) (o:=.cells #[.int .i64 bP,.slice aFx aX.length aEq] 25 (0,0)) aLv hb) (aA3 aHc hb);clear kB kA j9 b4 bD HB;obtain⟨kB,kA,j9,b4,mA,bD,HB⟩:=n_;clear hb aYr;obtain⟨bNg,bMs,LG⟩:=Kd.aBe j9.out;subst LG;obtain⟨bHt,bH7,wS⟩:=Kd.aBe mA.out;subst wS)|(go_at_call 30;(with_reducible refine(aC2.calls bAl _ _ tA _ _ xV true _ ?side1 ?side2 ?side3 ?side4 A75.out).mono ?_);(case side1=>repeat(first|exact(Kd.aAc j9.out).2.2|(with_reducible refine Kd.aCr ?_ _)|(with_reducible refine Kd.aCq ?_ _)|(with_reducible refine Kd.aDf ?_)));(case side2=>exact(Kd.aAc j9.out).2.1);(case side3=>repeat(first|exact(Kd.aAc mA.out).2.2|(with_reducible refine Kd.aCr ?_ _)|(with_reducible refine Kd.aCq ?_ _)|(with_reducible refine Kd.aDf ?_)));(case side4=>exact(Kd.aAc mA.out).2.1);rintro e w' ⟨rfl,⟨nd,rfl⟩⟩)));go_ret;exact⟨zz9,aHc⟩
     replace c77:=zdB c77;subst c77;rw[if_neg (show ¬ (false=true) by decide)]at H;obtain⟨tF,bJ7,H⟩:=zO_ H;(try dsimp only at H);have A85:=zK_ bJ7;clear bJ7;obtain rfl:=zdI H;obtain⟨bNf,bMr,LE⟩:=Kd.aBe kB.out;subst LE;obtain⟨bNe,bMq,LD⟩:=Kd.aBe kA.out;subst LD;(go_wp2_with (first|(go_at_call 30;(with_reducible refine(aC2.calls bAl _ _ kY _ _ tI true _ ?side1 ?side2 ?side3 ?side4 A71.out).mono ?_);(case side1=>repeat(first|exact(Kd.aAc kB.out).2.2|(with_reducible refine Kd.aCr ?_ _)|(with_reducible refine Kd.aCq ?_ _)|(with_reducible refine Kd.aDf ?_)));(case side2=>exact(Kd.aAc kB.out).2.1);(case side3=>repeat(first|exact(Kd.aAc kA.out).2.2|(with_reducible refine Kd.aCr ?_ _)|(with_reducible refine Kd.aCq ?_ _)|(with_reducible refine Kd.aDf ?_)));(case side4=>exact(Kd.aAc kA.out).2.1);rintro e w' ⟨rfl,⟨nd,rfl⟩⟩;have F7:=aCg bD;have F6:=aCf bD;have E6:=aA0 bD.out 0;have E5:=aA0 bD.out 1)|((with_reducible refine aAw (N:=135) rfl ?_);(try(refine aBu (by rfl) ?_;dsimp only));refine Kd.aRn (Kd.int .i64) _ 3 rfl (N:=135) rfl 42 _ _ rfl bP rfl rfl Try.underlying42 (.int .i64 0) 8 info3 rfl (by decide) (by omega) 0 (ok:=λ_=>True) (okp:=λ_=>True) rfl (λ_ hk=>hk) trivial (zdT zz4) (Nat.le_trans (Nat.mul_le_mul_right _ (zdT zz4:bP.toNat<=35184372088832)) (by omega)) (Below.refl _ _) (Nat.le_refl _) ?_;intro v145 w89 aYq hb hg_ aGn;clear hg_ aGn;(first|rw[<-sY.out]at aYq|(simp only[Int.reduceToNat]at aYq;rw[<-sY.out]at aYq));have n_:=zA7 (Kd.aBz aT5 (Kd.aCw aYq) hb) (Kd.aBz aT4 (Kd.aCw aYq) hb) (Kd.aBz aT3 (Kd.aCw aYq) hb) (Kd.aBp aY8 hb) (Kd.aCm (Kd.aD2 (Kd.aD2 (Kd.aD2 aYq (Kd.aEy aT5)) (Kd.aEy aT4)) (Kd.aEy aT3)) (aAj aHc)) (aA4 (g:=dY) (o:=.cells #[.int .i64 bP,.slice aFx aX.length aEq] 25 (0,0)) aLv hb) (aA3 aHc hb);clear kB kA j9 b4 bD HB;obtain⟨kB,kA,j9,b4,mA,bD,HB⟩:=n_;clear hb aYq;obtain⟨bNd,bMp,LB⟩:=Kd.aBe j9.out;subst LB;obtain⟨bNc,bMo,LA⟩:=Kd.aBe mA.out;subst LA)|(go_at_call 30;(with_reducible refine(aC2.calls bAl _ _ tA _ _ xV true _ ?side1 ?side2 ?side3 ?side4 A75.out).mono ?_);(case side1=>repeat(first|exact(Kd.aAc j9.out).2.2|(with_reducible refine Kd.aCr ?_ _)|(with_reducible refine Kd.aCq ?_ _)|(with_reducible refine Kd.aDf ?_)));(case side2=>exact(Kd.aAc j9.out).2.1);(case side3=>repeat(first|exact(Kd.aAc mA.out).2.2|(with_reducible refine Kd.aCr ?_ _)|(with_reducible refine Kd.aCq ?_ _)|(with_reducible refine Kd.aDf ?_)));(case side4=>exact(Kd.aAc mA.out).2.1);rintro e w' ⟨rfl,⟨nd,rfl⟩⟩;have FZ:=aCg bD;have FY:=aCf bD;have EY:=aA0 bD.out 0;have EX:=aA0 bD.out 1)|(go_at_call 34;(with_reducible refine(aC9.calls bAl bP _ _ aX tF _ ?side1 ?side2 A85.out).mono ?_);(case side1=>exact bC5);(case side2=>exact(Kd.aAc b4.out).2.1);rintro e w94 ⟨rfl,hb⟩;have n_:=zA7 (Kd.aBp aT5 hb) (Kd.aBp aT4 hb) (Kd.aBp aT3 hb) (Kd.aBp aY8 hb) (Kd.aBp (by(with_reducible repeat(first|apply Kd.aAu|apply Kd.aAt|apply Kd.aB5));exact mA.out) hb) (aA4 (g:=dY) (o:=.cells #[.int .i64 bP,.slice aFx aX.length aEq] 25 (0,0)) aLv hb) (aA3 aHc hb);clear kB kA j9 b4 mA bD HB;obtain⟨kB,kA,j9,b4,mA,bD,HB⟩:=n_;(try clear hb);(try clear hb2);(try clear hk);(try clear hi))));go_ret;exact⟨zz9,aHc⟩
def aAz.Pure:Prop:=∀ (l0:List Int),l0.length<=maxLen->l0.length*1<=140737488351232->(∀ x∈l0,(Lit.int .u8 x).wf=true)->∃ k,aAz.f k l0=some true
theorem aAz.walk (P:aAz.Pure) (a0:Option Addr) (len0 cap0:Nat) (z0:List Int) (w:World) (w0:(a0=none/\len0=0/\cap0=0/\z0=[])∨∃ x,a0=some x/\len0<=cap0/\cap0<=maxLen/\z0.length=cap0/\(∀ i,i<z0.length->w.cell? (x.add i)=some (.int .u8 (z0.getD i 0)))/\∀ n∈z0,(Lit.int .u8 n).wf=true) (y0:len0*1<=140737488351232) :
  Calls Try.prog 6 #[.slice a0 len0 cap0] w λe w'=>e = .returned (.bool true)/\Below w.heap.size w w':=by
 obtain⟨l0,rfl,hr0,hm0,hw0,hc0⟩:=aG7.bDd w0;obtain⟨k,h⟩:=P l0 hm0 y0 hw0;refine(aAz.calls k _ _ l0 true w (Kd.aMt (d:=(0:Int)) (h1:=λ_=>rfl) hr0) hc0 h).mono ?_;rintro e w' ⟨rfl,hd⟩;exact⟨rfl,hd⟩
end P
namespace Cf
open P
theorem aK2 {α:Type} {l:List α} {P:α->Prop} {i:Nat} (h:i<l.length):(∀ e∈l.drop i,P e)↔(P l[i]/\∀ e∈l.drop (i+1),P e):=by
 rw[List.drop_eq_getElem_cons h]
 simp only[List.mem_cons,forall_eq_or_imp]
theorem aHk (n:Int) (es:List E):aC6.f n es=some (gOk n es):=rfl
theorem aRb {n:Int} {es:List E} (h:gOk n es=true):GOk n es:=aEp.1 h
theorem aP3 (a b:Int) (l:List Int) (hl:l.length<=1048576):∀ (d i:Nat),i+d=l.length->Ep (λk=>aB7.l0 k a b l (l.length:Int) (i:Int)) (·=decide (∀ x∈l.drop i,a<=x/\x<=b)):=by
 intro d
 induction d with
 | zero =>
  intro i hi
  refine Ep.up ?_
  simp only[aB7.l0]
  refine Ep.neg (by omega) (Ep.now ?_)
  rw[List.drop_of_length_le (by omega)]
  simp
 | succ d ih =>
  intro i hi
  have hlt:i<l.length:=by omega
  refine Ep.up ?_
  simp only[aB7.l0]
  refine Ep.pos (by omega) (Ep.pos (by omega) (Ep.pos (by omega) ?_))
  rw[aEh hlt,wrap_succ (by omega)]
  refine Ep.aEu (aKs _ _ _) ?_
  refine Ep.ite (λh=>?_) (λh=>Ep.now ?_)
  ·have h':a<=l[i]/\l[i]<=b:=by simpa using h
   refine(ih (i+1) (by omega)).mono ?_
   rintro _ rfl
   simp only[aK2 hlt,h',true_and]
  ·have h':¬ (a<=l[i]/\l[i]<=b):=by simpa using h
   simp only[aK2 hlt,h',false_and,decide_false]
theorem aK4 (l:List Int) (a b:Int) (hl:l.length<=1048576):Ep (λk=>aB7.f k l a b) (·=decide (∀ x∈l,a<=x/\x<=b)):=by
 have:=aP3 a b l hl l.length 0 (by omega)
 simp only[aB7.f]
 rw[List.drop_zero]at this
 exact this
theorem aLf (n:Int) (es:List E) (v:Int) (hn:Wf .i64 n):aDl.f n es v=some (gOk n es&&decide (0<=v/\v<n)):=by
 unfold aDl.f
 rw[aHk]
 simp only[Option.bind_some]
 by_cases h:gOk n es=true
 ·have h1:=(aRb h).1.1
  have h6:=(aRb h).1.2.1
  rw[if_pos h,aCv (by omega) (by omega),aKs,h]
  simp only[Option.bind_some,Bool.true_and]
  have:(0<=v/\v<=n-1)↔(0<=v/\v<n):=by omega
  simp only[this]
 ·rw[if_neg h]
  have:gOk n es=false:=by simpa using h
  rw[this]
  rfl
def At (es:List E) (k v:Int):Prop:=∃ j:Nat,k=j/\∃ h:j<es.length,es[j].f0=v∨es[j].f1=v
theorem At.of {es:List E} {j:Nat} {v:Int} (hj:j<es.length):At es (j:Int) v↔(es[j].f0=v∨es[j].f1=v):=by
 constructor
 ·rintro⟨i,hi,h,hx⟩
  have:i=j:=by omega
  subst this
  exact hx
 ·intro h
  exact⟨j,rfl,hj,h⟩
end Cf
end Go.Proofs.Ytfdaopkbibbhbaa
