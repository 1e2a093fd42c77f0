/- A part of the proof of aF3. -/
import Derived.Test.YtnbljcgdgblgoaaGreatBFnLists4
import Derived.Test.YtnbljcgdgblgoaaGreatBFnLists0
import Derived.Test.YtnbljcgdgblgoaaGreatBFnLists2
import Derived.Test.YtnbljcgdgblgoaaGreatBFnLists3
import Derived.Test.YtnbljcgdgblgoaaGreatBFnLists1
set_option linter.unusedVariables false
set_option linter.unusedSimpArgs false
set_option maxHeartbeats 8000000
set_option maxRecDepth 100000
namespace Go.Proofs.YtnbljcgdgblgoaaGreat
open Go.RowKit Go.Proofs.YtnbljcgdgblgoaaGreatW.PrintWords Go.Proofs.YtnbljcgdgblgoaaGreatW.PrintLast Go.Proofs.YtnbljcgdgblgoaaGreatW.PrintMore
attribute [local go_sem] max2_int min2_int max_two min_two max_three min_three max_four min_four
namespace P
mutual
def aAz.j0:Nat->Int->List (List Int)->List (List Int)->Bool->Int->List (S46)->Option (Bool)
 | 0,_,_,_,_,_,_=>none
 | k+1,x5,x6,x8,QQ,kN,kM=>if QQ=true then(none) else(aAz.l0 k x5 x6 x8 x6 (x6.length:Int) 0 kN kM)
def aAz.l0:Nat->Int->List (List Int)->List (List Int)->List (List Int)->Int->Int->Int->List (S46)->Option (Bool)
 | 0,_,_,_,_,_,_,_,_=>none
 | k+1,x5,x6,x8,zJ,JE,q9,kN,kM=>if q9<JE then(if 0<=q9 then(if q9<(zJ.length:Int) then((aCw.f k kN kM (aBt zJ q9) x5).bind λwX=>((aCv.f k kN kM wX.1 x5).bind λjD=>((aCz.f k kN kM (aBt zJ q9) x5).bind λkX=>(if wX.2=true then(if jD.2=true then(if kX.2=true then((aD3.f k jD.1 (aBt zJ q9)).bind λvM=>(if vM=true then((aCr.f k kN kM wX.1 x5).bind λvK=>(if vK=true then(if kX.1<0 then(none) else((aFq.f kN kM).bind λsP=>(if kX.1>sP then(none) else(if q9>0 then(if 0<=(wrap64 (q9-1)) then(if(wrap64 (q9-1))<(x6.length:Int) then((aCu.f k (aBt x6 (wrap64 (q9-1))) (aBt zJ q9)).bind λvJ=>(if vJ=true then(if(wrap64 (q9-1))<(x8.length:Int) then(if q9<(x8.length:Int) then((aCu.f k (aBt x8 (wrap64 (q9-1))) (aBt x8 q9)).bind λvI=>(if vI=true then(aAz.l0 k x5 x6 x8 zJ JE (wrap64 (q9+1)) kN kM) else(none))) else(none)) else(none)) else(none))) else(none)) else(none)) else(aAz.l0 k x5 x6 x8 zJ JE (wrap64 (q9+1)) kN kM))))) else(none))) else(none))) else(none)) else(none)) else(none))))) else(none)) else(none)) else(some true)
end
def aAz.f (k:Nat) (l0:List Int):Option (Bool):=if(l0.length:Int)>1048576 then(some true) else((aCi.f k l0).bind λb5=>((aE2.f k l0 60).bind λcV=>(if b5.1=0 then(none) else((aAd.f k b5.1 b5.2.1 (Int.tmod cV b5.1)).bind λg7=>((aBk.f k b5.1 b5.2.1 (Int.tmod cV b5.1)).bind λkY=>((aCp.f k b5.1 b5.2.1).bind λjK=>(if g7.2=true then(if kY.2=true then(if(g7.1.length:Int)=jK then(if(kY.1.length:Int)=jK then(aAz.j0 k (Int.tmod cV b5.1) g7.1 kY.1 (decide (jK<1)) b5.1 b5.2.1) else(aAz.j0 k (Int.tmod cV b5.1) g7.1 kY.1 true b5.1 b5.2.1)) else(aAz.j0 k (Int.tmod cV b5.1) g7.1 kY.1 true b5.1 b5.2.1)) else(aAz.j0 k (Int.tmod cV b5.1) g7.1 kY.1 true b5.1 b5.2.1)) else(aAz.j0 k (Int.tmod cV b5.1) g7.1 kY.1 true b5.1 b5.2.1))))))))
theorem aAz.aBp:∀ k,(∀ y0 y1 y2 y3 y4 y5,LeO (aAz.j0 k y0 y1 y2 y3 y4 y5) (aAz.j0 (k+1) y0 y1 y2 y3 y4 y5))/\(∀ y0 y1 y2 y3 y4 y5 y6 y7,LeO (aAz.l0 k y0 y1 y2 y3 y4 y5 y6 y7) (aAz.l0 (k+1) y0 y1 y2 y3 y4 y5 y6 y7))
 | 0=>⟨λ_ _ _ _ _ _ r h=>by simp[aAz.j0]at h,λ_ _ _ _ _ _ _ _ r h=>by simp[aAz.l0]at h⟩
 | k+1=>by
  obtain⟨ih0,ih1⟩:=aAz.aBp k
  refine⟨?_,?_⟩
  ·intro y0 y1 y2 y3 y4 y5
   unfold aAz.j0
   exact zm3
  ·intro y0 y1 y2 y3 y4 y5 y6 y7
   unfold aAz.l0
   exact zm3
theorem aAz.mono:∀ a0 k,LeO (aAz.f k a0) (aAz.f (k+1) a0):=by
 intro a0 k;obtain⟨ih0,ih1⟩:=aAz.aBp k;unfold aAz.f;exact zm3
def aAz.T16:Bool×List (List Nat×List Nat):=(true,[([],[]),([0],[0]),([1],[1]),([2],[2]),([3,2],[2,3]),([2,4],[2,4]),([5,2],[5]),([6],[6]),([7,6],[6,7]),([6,8],[6,8]),([9,6],[9]),([10],[10]),([10],[10]),([11,12,10,10],[10,11,12]),([13,10],[10,13]),([10,14],[10,14]),([15,13],[15]),([16],[16]),([16],[16]),([16],[16]),([17,18,19,16,16],[16,17,18,19]),([20,16],[16,20]),([16,21],[16,21]),([22,20],[22]),([23],[23]),([24,23],[23,24]),([23,25],[23,25]),([26,23],[26]),([27],[27]),([27],[27]),([29,27,27],[27,29]),([28,30,27],[27,28,30]),([27,31],[27,31]),([32,30],[32]),([33],[33]),([34,33],[33,34]),([35,33,33],[33,35]),([36],[36]),([36],[36]),([38,36],[36,38]),([37,39,36],[36,37,39]),([40,36],[36,40]),([36],[36]),([41,42,36,36],[36,41,42]),([43,36],[36,43]),([44,43,36],[36,44]),([45],[45]),([45],[45]),([47,45],[45,47]),([46,48,45],[45,46,48]),([49,45],[45,49]),([45],[45]),([45],[45]),([51,52,45],[45,51,52]),([53,45],[45,53]),([50,54,45,45],[45,50,54]),([55,45],[45,55]),([45,56,36],[36,45,56]),([36,57,33],[33,36,57]),([33,58],[33,58])])
def aAz.B16:List Nat:=[0,1,3,7,15,31,63,127,255,511,1023,2047,2047,8191,16383,32767,65535,131071,131071,131071,1048575,2097151,4194303,8388607,16777215,33554431,67108863,134217727,268435455,268435455,805306367,2147483647,4294967295,8589934591,17179869183,34359738367,68719476735,137438953471,137438953471,412316860415,1099511627775,2199023255551,137438953471,8796093022207,17592186044415,35184372088831,70368744177663,70368744177663,211106232532991,562949953421311,1125899906842623,70368744177663,70368744177663,6825768185233407,15832967439974399,36028797018963967,72057594037927935,144115188075855871,288230376151711743,576460752303423487]
theorem aAz.bJ1:aIo .any (opsOf Tryz.f3 16)=aAz.T16:=by kernel_rfl
theorem aAz.bEb:aFn aAz.T16.2 aAz.B16=true:=by kernel_rfl
theorem aAz.calls (k:Nat) (A0:Option Addr) (c0:Nat) (l0:List Int) (r:Bool) (w:World) (hr0:Kd.C (Kd.int .u8) w A0 l0.length l0) (hc0:l0.length<=c0) (h:aAz.f k l0=some r) :
  Calls Tryz.prog 3 #[.slice A0 l0.length c0] w λe w'=>e = .returned (.bool r)/\Below w.heap.size w w':=by
 have aI5:=Tryz.underlying25;have HR0:=zK_ hr0;have HC0:=zK_ hc0;clear hr0 hc0;have HB:=zK_ (Below.refl w.heap.size w);have H:(if(l0.length:Int)>1048576 then(some true) else((aCi.f k l0).bind λb5=>((aE2.f k l0 60).bind λcV=>(if b5.1=0 then(none) else((aAd.f k b5.1 b5.2.1 (Int.tmod cV b5.1)).bind λg7=>((aBk.f k b5.1 b5.2.1 (Int.tmod cV b5.1)).bind λkY=>((aCp.f k b5.1 b5.2.1).bind λjK=>(if g7.2=true then(if kY.2=true then(if(g7.1.length:Int)=jK then(if(kY.1.length:Int)=jK then(aAz.j0 k (Int.tmod cV b5.1) g7.1 kY.1 (decide (jK<1)) b5.1 b5.2.1) else(aAz.j0 k (Int.tmod cV b5.1) g7.1 kY.1 true b5.1 b5.2.1)) else(aAz.j0 k (Int.tmod cV b5.1) g7.1 kY.1 true b5.1 b5.2.1)) else(aAz.j0 k (Int.tmod cV b5.1) g7.1 kY.1 true b5.1 b5.2.1)) else(aAz.j0 k (Int.tmod cV b5.1) g7.1 kY.1 true b5.1 b5.2.1)))))))))=some r:=h;clear h;by_cases c2:(l0.length:Int)>1048576
 ·rw[if_pos c2]at H;have mH:decide (1048576<(l0.length:Int))=true:=zdY c2;have pJ:decide (1048576<l0.length)=true:=zdY (by omega);clear c2;obtain rfl:=zdI H;go_enter Tryz.func3,Tryz.ntmps3;go_wp2;go_ret;exact⟨zz7,zz2⟩
 rw[if_neg c2]at H;have mH:decide (1048576<(l0.length:Int))=false:=zdN c2;have pJ:decide (1048576<l0.length)=false:=zdN (by omega);clear c2;replace H:=zO_ H;obtain⟨⟨bO,aQ,fA⟩,A30,H⟩:=H;dsimp only at H;have A3:=zK_ A30;clear A30;obtain⟨cV,A40,H⟩:=zO_ H;(try dsimp only at H);have A4:=zK_ A40;clear A40;by_cases c5:bO=0
 ·rw[if_pos c5]at H;exact absurd H (by simp)
 rw[if_neg c5]at H;have fD:(bO==0)=false:=beq_eq_false_iff_ne.mpr c5;have qF:(bO != 0)=true:=bne_iff_ne.mpr c5;replace H:=zO_ H;obtain⟨⟨cM,lT⟩,A60,H⟩:=H;dsimp only at H;have A6:=zK_ A60;clear A60;replace H:=zO_ H;obtain⟨⟨f9,kI⟩,A70,H⟩:=H;dsimp only at H;have A7:=zK_ A70;clear A70;obtain⟨jK,A80,H⟩:=zO_ H;(try dsimp only at H);have A8:=zK_ A80;clear A80;have HC9:=zK_ H;clear H;go_enter Tryz.func3,Tryz.ntmps3;(try go_wp2_with (first|((with_reducible refine aA5 (f:=4) rfl ?_);refine aB8 (some 24) rfl rfl Tryz.func4 (by kernel_rfl) rfl #[.slice A0 l0.length c0] rfl zz3 ?_;(with_reducible refine(aCi.calls k _ _ l0 bO aQ fA _ ?side1 ?side2 A3.out).mono ?_);(case side1=>exact bAu);(case side2=>exact HC0.out);rintro e w10 ⟨aXr,bB2,rfl,ho0,ho1,hb⟩;refine⟨_,rfl,?_⟩;have n_:=zA3 (Kd.aCn (Kd.aBs (ok':=λk_=>True) ho0 (λ_ hk_=>trivial)) (aAa zz2)) (Kd.bH9 (Kd.aK0 (ok':=λk_=>some k_≠(aXr:Value).ownBlock) ho1 (λk_ hk_=>hk_.2)) (aAa zz2)) (aA1 zz2 hb);clear HB;obtain⟨dD,d8,HB⟩:=n_;clear ho0 ho1 hb)|((with_reducible refine aAj (N:=3) rfl ?_);(try(refine aC1 (by rfl) ?_;dsimp only));refine aAf ?hg (N:=3) ?hd (cs:=#[.int .i64 0,.slice none 0 0]) (t:=25) ?hr ?_;(case hd=>rfl);(case hg=>rfl);(case hr=>exact aD9);intro dW hg w11 hbox hb;have n_:=zA6 (Kd.aBn aOs hb) (Kd.aNp (Kd.bD6 aXc dW (Nat.le_of_eq hg.symm)) hb) (aA1 zz2 hb) hbox (aDl:w.heap.size<=dW) (aDl:w.heap.size<=dW);clear dD d8 HB;obtain⟨dD,d8,HB,bI,bUv,bQ2⟩:=n_;clear hb hbox hg;have kU:=aCe bI;have kT:=aCd bI;have kS:=aA0 bI.out 0;have kR:=aA0 bI.out 1;obtain⟨aGv,aG8,rT⟩:=Kd.aBr dD.out;subst rT)));have n0_:aA2 (Kd.R k46 46 ((w11.setCell ⟨dW,0,none⟩ (.int .i64 bO)).setCell ⟨dW,1,none⟩ (.slice aGv aQ.length aG8)) w.heap.size (λ_=>True) (.slice aGv aQ.length aG8) aQ):=⟨by(with_reducible repeat(first|apply Kd.aB6|apply Kd.aB5|apply Kd.aBd));exact Kd.aBs (Kd.aE5 (p:=⟨dW,1,none⟩) (Kd.aE5 (p:=⟨dW,0,none⟩) (Kd.aDk dD.out bI.out (by decide)) (λ_ hk=>hk.2) (.int .i64 bO)) (λ_ hk=>hk.2) (.slice aGv aQ.length aG8)) (λ_ hk=>trivial)⟩;have n1_:aA2 (Kd.V (Kd.int .i64) 3 ((w11.setCell ⟨dW,0,none⟩ (.int .i64 bO)).setCell ⟨dW,1,none⟩ (.slice aGv aQ.length aG8)) w.heap.size (λk_=>some k_≠(.slice aGv aQ.length aG8:Value).ownBlock/\k_≠dW) bB2 fA):=⟨by(with_reducible repeat(first|apply Kd.aKa|apply Kd.aK9|apply Kd.aM7));exact Kd.aK0 (Kd.aWs (p:=⟨dW,1,none⟩) (Kd.aWs (p:=⟨dW,0,none⟩) (Kd.aK0 d8.out (λk_ hk=>(⟨hk,hk.2⟩:_/\k_≠dW))) (λ_ hk=>hk.2) (.int .i64 bO)) (λ_ hk=>hk.2) (.slice aGv aQ.length aG8)) (λ_ hk=>⟨hk.1.1,hk.1.2⟩)⟩;have n2_:aA2 (((w11.setCell ⟨dW,0,none⟩ (.int .i64 bO)).setCell ⟨dW,1,none⟩ (.slice aGv aQ.length aG8)).heap[dW]? = some (.cells #[.int .i64 bO,.slice aGv aQ.length aG8] 25 (0,0))):=⟨by(with_reducible repeat(first|refine aA8 ?_ _|refine aA9 ?_|refine aA7 ?_ _));refine aD1 (cs:=#[.int .i64 bO,.slice none 0 0]) ?_ 1 _ rfl;(with_reducible repeat(first|refine aA8 ?_ _|refine aA9 ?_|refine aA7 ?_ _));refine aD1 (cs:=#[.int .i64 0,.slice none 0 0]) ?_ 0 _ rfl;(with_reducible repeat(first|refine aA8 ?_ _|refine aA9 ?_|refine aA7 ?_ _));exact bI.out⟩;have n3_:aA2 (Below w.heap.size w ((w11.setCell ⟨dW,0,none⟩ (.int .i64 bO)).setCell ⟨dW,1,none⟩ (.slice aGv aQ.length aG8))):=⟨aKc⟩;(try clear dD);(try clear d8);(try clear bI);(try clear HB);generalize ((w11.setCell ⟨dW,0,none⟩ (.int .i64 bO)).setCell ⟨dW,1,none⟩ (.slice aGv aQ.length aG8))=w14 at n0_ n1_ n2_ n3_ ⊢;have dD:=n0_;have d8:=n1_;have bI:=n2_;have HB:=n3_;clear n0_ n1_ n2_ n3_;have n_:=zA4 (Kd.aBd dD.out) (Kd.aM7 d8.out) (aA9 bI.out) (aAx HB.out);clear dD d8 bI HB;obtain⟨dD,d8,bI,HB⟩:=n_;refine aFp (n:=6) (S:=λw'=>w'.cell? ⟨dW,0,none⟩=some (.int .i64 bO)/\w'.cell? ⟨dW,1,none⟩=some (.slice aGv aQ.length aG8)) (ds:=[]) (zM 6 0) (by kernel_rfl) rfl rfl ⟨(aAc bI.out 0).trans rfl,(aAc bI.out 1).trans rfl⟩ (λhHeld=>?_);generalize w14.drew=w15 at dD d8 bI HB hHeld ⊢;refine aKp (i:=0) (N:=some 27) (v:=?_) (a':=?_) (zM 6 1) rfl rfl (by kernel_rfl) (λ_ _ _ h=>h) (Or.inl ⟨by rfl,?_⟩) ?_ ?_;rotate_left
 ·intro w';exact zzT
 rotate_left
 ·exact zzS
 refine aKp (i:=2) (N:=some 29) (v:=?_) (a':=?_) (zM 6 5) rfl rfl (by kernel_rfl) (λ_ _ _ h=>h) (Or.inl ⟨by rfl,?_⟩) ?_ ?_;rotate_left
 ·intro w';exact zzT
 rotate_left
 ·exact zzS
 refine aE6 (i:=3) (N:=some 30) (v:=?_) (a':=?_) (zM 6 13) rfl rfl (by kernel_rfl) (λ_ _ _ h=>h) (Or.inl ⟨by rfl,?_⟩) hHeld ?_ ?_;rotate_left
 ·rintro w' ⟨s0,s1⟩;exact zzT
 rotate_left
 ·exact zzS
 refine aHv (i:=1) (N:=some 28) (zM 6 15) rfl rfl (by kernel_rfl) (by decide) (λK hK=>?_);refine aG5 Tryz.func5 (by kernel_rfl) rfl #[.slice A0 l0.length c0,.int .i64 60] (by rfl) rfl rfl zz3 ?_;(with_reducible refine(aE2.calls k _ _ l0 60 cV _ ?side1 ?side2 A4.out).mono ?_);(case side1=>exact aXm);(case side2=>exact HC0.out);rintro e w16 ⟨rfl,hb⟩;refine⟨_,rfl,?_⟩;have n_:=zA4 (Kd.aBn aOs hb) (Kd.aNp aXc hb) (aA4 (g:=dW) (o:=.cells #[.int .i64 bO,.slice aGv aQ.length aG8] 25 (0,0)) aNw hb) (aA1 aKc hb);clear dD d8 bI HB;obtain⟨dD,d8,bI,HB⟩:=n_;clear hb;refine hK.out _ _ ⟨(aAc bI.out 0).trans rfl,(aAc bI.out 1).trans rfl⟩ (λhHeld=>?_);clear hK K;refine aEd (a':=?_) ?_ ?_;rotate_left
 ·show Act.put _ (some 28) _=_;exact zzS
 refine aKp (i:=4) (N:=some 31) (v:=?_) (a':=?_) (zM 6 31) rfl rfl (by kernel_rfl) (λ_ _ _ h=>h) (Or.inl ⟨by rfl,?_⟩) ?_ ?_;rotate_left
 ·intro w';exact zzT
 rotate_left
 ·exact zzS
 refine aKp (i:=5) (N:=some 5) (v:=?_) (a':=?_) (zM 6 63) rfl rfl (by kernel_rfl) (λ_ _ _ h=>h) (Or.inl ⟨by rfl,?_⟩) ?_ ?_;rotate_left
 ·intro w';exact zzT
 rotate_left
 ·exact zzS
 refine aH4 (by kernel_rfl) ?_;have jA:=aCe bI;have i9:=aCd bI;have iZ:=aA0 bI.out 0;have iY:=aA0 bI.out 1;(go_upto_region 8 with (first|((with_reducible refine aA5 (f:=6) rfl ?_);refine aB8 (some 35) rfl rfl Tryz.func6 (by kernel_rfl) rfl #[.agg #[.int .i64 bO,.slice aGv aQ.length aG8],.int .i64 (Int.tmod cV bO)] rfl zz3 ?_;(with_reducible refine(aAd.calls k bO _ _ aQ (Int.tmod cV bO) cM lT _ ?side1 ?side2 A6.out).mono ?_);(case side1=>exact bHu);(case side2=>exact(Kd.aAl dD.out).2.1);rintro e w18 ⟨bIu,rfl,ho0,hb⟩;refine⟨_,rfl,?_⟩;have n_:=zA5 (Kd.aBn aOs hb) (Kd.aVj aXc (Kd.bA7 ho0) hb) (Kd.aJg ho0 (aAa aKc)) (aA4 (g:=dW) (o:=.cells #[.int .i64 bO,.slice aGv aQ.length aG8] 25 (0,0)) aNw hb) (aA1 aKc hb);clear dD d8 bI HB;obtain⟨dD,d8,jQ,bI,HB⟩:=n_;clear ho0 hb;have i8:=aCe bI;have i7:=aCd bI;have iX:=aA0 bI.out 0;have iW:=aA0 bI.out 1)|((with_reducible refine aA5 (f:=7) rfl ?_);refine aB8 (some 41) rfl rfl Tryz.func7 (by kernel_rfl) rfl #[.agg #[.int .i64 bO,.slice aGv aQ.length aG8],.int .i64 (Int.tmod cV bO)] rfl zz3 ?_;(with_reducible refine(aBk.calls k bO _ _ aQ (Int.tmod cV bO) f9 kI _ ?side1 ?side2 A7.out).mono ?_);(case side1=>exact bHu);(case side2=>exact(Kd.aAl dD.out).2.1);rintro e w20 ⟨bDr,rfl,ho0,hb⟩;refine⟨_,rfl,?_⟩;have n_:=zA6 (Kd.aBn aOs hb) (Kd.aVj aXc (Kd.bA7 ho0) hb) (Kd.aFf (by(with_reducible repeat(first|apply Kd.aE0|apply Kd.aDz|apply Kd.aE9));exact jQ.out) (Kd.bA7 ho0) hb) (Kd.aJg (Kd.bM0 ho0 (Kd.bEe (by(with_reducible repeat(first|apply Kd.aE0|apply Kd.aDz|apply Kd.aE9));exact jQ.out))) (aAa aKc)) (aA4 (g:=dW) (o:=.cells #[.int .i64 bO,.slice aGv aQ.length aG8] 25 (0,0)) aNw hb) (aA1 aKc hb);clear dD d8 jQ bI HB;obtain⟨dD,d8,jQ,nL,bI,HB⟩:=n_;clear ho0 hb;have f5:=aCe bI;have fZ:=aCd bI;have fY:=aA0 bI.out 0;have fX:=aA0 bI.out 1)|((with_reducible refine aA5 (f:=8) rfl ?_);refine aB8 (some 45) rfl rfl Tryz.func8 (by kernel_rfl) rfl #[.agg #[.int .i64 bO,.slice aGv aQ.length aG8]] rfl zz3 ?_;(with_reducible refine(aCp.calls k bO _ _ aQ jK _ ?side1 ?side2 A8.out).mono ?_);(case side1=>exact bHu);(case side2=>exact(Kd.aAl dD.out).2.1);rintro e w22 ⟨rfl,hb⟩;refine⟨_,rfl,?_⟩;have n_:=zA6 (Kd.aBn aOs hb) (Kd.aNp aXc hb) (Kd.aD8 (by(with_reducible repeat(first|apply Kd.aE0|apply Kd.aDz|apply Kd.aE9));exact jQ.out) hb) (Kd.aD8 (by(with_reducible repeat(first|apply Kd.aE0|apply Kd.aDz|apply Kd.aE9));exact nL.out) hb) (aA4 (g:=dW) (o:=.cells #[.int .i64 bO,.slice aGv aQ.length aG8] 25 (0,0)) aNw hb) (aA1 aKc hb);clear dD d8 jQ nL bI HB;obtain⟨dD,d8,jQ,nL,bI,HB⟩:=n_;clear hb)));(try simp only[Act.put,List.setIfInBounds_toArray,List.set_cons_zero,List.set_cons_succ]);go_cut [67] (λv67 wc=>∃ (kq:Nat) (tC:Bool),v67 = .bool tC/\aA2 (aAz.j0 kq (Int.tmod cV bO) cM f9 tC bO aQ=some r)/\aA2 (kq<=k)/\aA2 (Kd.S (Kd.slice 3 (Kd.int .i64)) 26 wc w.heap.size (λk_=>some k_≠(bDr:Value).ownBlock) bIu cM)/\aA2 (Kd.S (Kd.slice 3 (Kd.int .i64)) 26 wc w.heap.size (λk_=>some k_≠(bIu:Value).ownBlock) bDr f9)/\aA2 (Kd.R k46 46 wc w.heap.size (λ_=>True) (.slice aGv aQ.length aG8) aQ)/\aA2 (wc.heap[dW]? = some (.cells #[.int .i64 bO,(.slice aGv aQ.length aG8)] 25 (0,0)))/\aA2 (Below w.heap.size w wc))
 case first =>
  have H:=HC9.out;clear HC9;by_cases c23:lT=true;rotate_left
  ·replace c23:=zdB c23;subst c23;rw[if_neg (show ¬ (false=true) by decide)]at H;have H':=zK_ H;clear H;go_wp2;(go_meet);case rel=>exact⟨_,(true),zz6,H',⟨by first|omega|exact Nat.le_refl _⟩,⟨aXi⟩,⟨aXh⟩,⟨aOs⟩,⟨aNw⟩,⟨aKc⟩⟩
  subst c23;rw[if_pos rfl]at H;by_cases c24:kI=true;rotate_left
  ·replace c24:=zdB c24;subst c24;rw[if_neg (show ¬ (false=true) by decide)]at H;have H':=zK_ H;clear H;go_wp2;(go_meet);case rel=>exact⟨_,(true),zz6,H',⟨by first|omega|exact Nat.le_refl _⟩,⟨aXi⟩,⟨aXh⟩,⟨aOs⟩,⟨aNw⟩,⟨aKc⟩⟩
  subst c24;rw[if_pos rfl]at H;by_cases c25:(cM.length:Int)=jK;rotate_left
  ·rw[if_neg c25]at H;have mR:((cM.length:Int)==jK)=false:=beq_eq_false_iff_ne.mpr c25;have wS:((cM.length:Int) != jK)=true:=bne_iff_ne.mpr c25;(first|rw[mR]|(simp only[aFm,aMb];rw[mR])|skip);have H':=zK_ H;clear H;obtain⟨bS4,bP7,uX⟩:=Kd.aGa jQ.out;subst uX;go_wp2;(go_meet);case rel=>exact⟨_,(true),zz6,H',⟨by first|omega|exact Nat.le_refl _⟩,⟨aXi⟩,⟨aXh⟩,⟨aOs⟩,⟨aNw⟩,⟨aKc⟩⟩
  rw[if_pos c25]at H;have mR:((cM.length:Int)==jK)=true:=beq_iff_eq.mpr c25;have wS:((cM.length:Int) != jK)=false:=bne_eq_false_iff_eq.mpr c25;clear c25;(first|rw[mR]|(simp only[aFm,aMb];rw[mR])|skip);by_cases c26:(f9.length:Int)=jK;rotate_left
  ·rw[if_neg c26]at H;have oG:((f9.length:Int)==jK)=false:=beq_eq_false_iff_ne.mpr c26;have rY:((f9.length:Int) != jK)=true:=bne_iff_ne.mpr c26;have H':=zK_ H;clear H;obtain⟨bUz,bNs,zX⟩:=Kd.aGa jQ.out;subst zX;obtain⟨bS5,bRg,zW⟩:=Kd.aGa nL.out;subst zW;go_wp2;(go_meet);case rel=>exact⟨_,(true),zz6,H',⟨by first|omega|exact Nat.le_refl _⟩,⟨aXi⟩,⟨aXh⟩,⟨aOs⟩,⟨aNw⟩,⟨aKc⟩⟩
  rw[if_pos c26]at H;have oG:((f9.length:Int)==jK)=true:=beq_iff_eq.mpr c26;have rY:((f9.length:Int) != jK)=false:=bne_eq_false_iff_eq.mpr c26;clear c26;have H':=zK_ H;clear H;obtain⟨bWo,bW8,NG⟩:=Kd.aGa jQ.out;subst NG;obtain⟨bQ8,bP8,zY⟩:=Kd.aGa nL.out;subst zY;go_wp2;(go_meet);case rel=>exact⟨_,(decide (jK<1)),zz6,H',⟨by first|omega|exact Nat.le_refl _⟩,⟨aXi⟩,⟨aXh⟩,⟨aOs⟩,⟨aNw⟩,⟨aKc⟩⟩
 case rest =>
  clear HC9;(try clear c2);(try clear mH);(try clear pJ);(try clear p2);(try clear c3);(try clear c4);(try clear c5);(try clear fD);(try clear qF);(try clear c6);(try clear c7);(try clear c8);(try clear c23);(try clear c24);(try clear c25);(try clear mR);(try clear wS);(try clear c26);(try clear oG);(try clear rY);(try clear kU);(try clear kT);(try clear jA);(try clear i9);(try clear i8);(try clear i7);(try clear f5);(try clear fZ);(try clear kS);(try clear kR);(try clear iZ);(try clear iY);(try clear iX);(try clear iW);(try clear fY);(try clear fX);obtain⟨kq,tC,rfl,HA,HJ8,gQ,cW,bL,bI,HB⟩:=hcut
  cases kq with
  | zero=>exact absurd HA.out (by simp[aAz.j0])
  | succ kj8 =>
   have H:=HA.out;clear HA;simp only[aAz.j0]at H;by_cases c32:tC=true
   ·subst c32;rw[if_pos rfl]at H;exact absurd H (by simp)
   replace c32:=zdB c32;subst c32;rw[if_neg (show ¬ (false=true) by decide)]at H;have H':=zK_ H;clear H;obtain⟨bO3,bNr,NF⟩:=Kd.aGa gQ.out;subst NF;go_wp2;(go_loopg [70] kj8 (λkq v70 w'=>∃ (dC:Int),v70 = .int .i64 dC/\aA2 (aAz.l0 kq (Int.tmod cV bO) cM f9 cM (cM.length:Int) dC bO aQ=some r)/\aA2 (kq<=kj8)/\aA2 (Kd.S (Kd.slice 3 (Kd.int .i64)) 26 w' w.heap.size (λk_=>some k_≠(bDr:Value).ownBlock) (.slice bO3 cM.length bNr) cM)/\aA2 (Kd.S (Kd.slice 3 (Kd.int .i64)) 26 w' w.heap.size (λk_=>some k_≠((.slice bO3 cM.length bNr):Value).ownBlock/\some k_≠((.slice bO3 cM.length bNr):Value).ownBlock) bDr f9)/\aA2 (Kd.S (Kd.slice 3 (Kd.int .i64)) 26 w' w.heap.size (λk_=>some k_≠(bDr:Value).ownBlock) (.slice bO3 cM.length bNr) cM)/\aA2 (Kd.R k46 46 w' w.heap.size (λ_=>True) (.slice aGv aQ.length aG8) aQ)/\aA2 (w'.heap[dW]? = some (.cells #[.int .i64 bO,(.slice aGv aQ.length aG8)] 25 (0,0)))/\aA2 (Below w.heap.size w w')));case atStart=>exact⟨(0),zz6,H',⟨Nat.le_refl _⟩,⟨by(with_reducible repeat(first|apply Kd.aE0|apply Kd.aDz|apply Kd.aE9));exact gQ.out⟩,⟨by(with_reducible repeat(first|apply Kd.aE0|apply Kd.aDz|apply Kd.aE9));exact Kd.aE4 cW.out (λ_ hk=>⟨hk,hk⟩)⟩,⟨by(with_reducible repeat(first|apply Kd.aE0|apply Kd.aDz|apply Kd.aE9));exact gQ.out⟩,⟨by(with_reducible repeat(first|apply Kd.aB6|apply Kd.aB5|apply Kd.aBd));exact bL.out⟩,⟨aNw⟩,⟨aKc⟩⟩
   case round =>
    clear H';(try clear c2);(try clear mH);(try clear pJ);(try clear p2);(try clear c3);(try clear c4);(try clear c5);(try clear fD);(try clear qF);(try clear c6);(try clear c7);(try clear c8);(try clear c23);(try clear c24);(try clear c25);(try clear mR);(try clear wS);(try clear c26);(try clear oG);(try clear rY);(try clear c32);(try clear kU);(try clear kT);(try clear jA);(try clear i9);(try clear i8);(try clear i7);(try clear f5);(try clear fZ);(try clear kS);(try clear kR);(try clear iZ);(try clear iY);(try clear iX);(try clear iW);(try clear fY);(try clear fX);(try clear p2);obtain⟨dC,rfl,HA,HK2,gQ,cW,eD,bL,bI,HB⟩:=hrel
    cases gk with
    | zero=>exact absurd HA.out (by simp[aAz.l0])
    | succ k2 =>
     have H:=HA.out;clear HA;simp only[aAz.l0]at H;by_cases c34:dC<(cM.length:Int);rotate_left
     ·rw[if_neg c34]at H;have rW:=zdN c34;(try(have pH:=rW;first|rw[oQ]at pH|rw[<-oQ]at pH));(try(have pG:=rW;first|rw[oP]at pG|rw[<-oP]at pG));(try(have pI:=rW;first|rw[lW]at pI|rw[<-lW]at pI));clear c34;obtain rfl:=zdI H;go_wp2;go_ret;exact⟨zz7,aKc⟩
     rw[if_pos c34]at H;have rW:=zdY c34;clear c34;by_cases c35:0<=dC;rotate_left
     ·rw[if_neg c35]at H;exact absurd H (by simp)
     rw[if_pos c35]at H;have yS:=zdY c35;clear c35;by_cases c36:dC<(cM.length:Int);rotate_left
     ·rw[if_neg c36]at H;exact absurd H (by simp)
     rw[if_pos c36]at H;have QK:=zdY c36;clear c36;replace H:=zO_ H;obtain⟨⟨oD,mO⟩,bSg,H⟩:=H;dsimp only at H;have A37:=zK_ bSg;clear bSg;replace H:=zO_ H;obtain⟨⟨gP,kQ⟩,bSf,H⟩:=H;dsimp only at H;have A38:=zK_ bSf;clear bSf;replace H:=zO_ H;obtain⟨⟨gU,zO⟩,bSe,H⟩:=H;dsimp only at H;have A39:=zK_ bSe;clear bSe;by_cases c40:mO=true;rotate_left
     ·replace c40:=zdB c40;subst c40;rw[if_neg (show ¬ (false=true) by decide)]at H;exact absurd H (by simp)
     subst c40;rw[if_pos rfl]at H;by_cases c41:kQ=true;rotate_left
     ·replace c41:=zdB c41;subst c41;rw[if_neg (show ¬ (false=true) by decide)]at H;exact absurd H (by simp)
     subst c41;rw[if_pos rfl]at H;by_cases c42:zO=true;rotate_left
     ·replace c42:=zdB c42;subst c42;rw[if_neg (show ¬ (false=true) by decide)]at H;exact absurd H (by simp)
     subst c42;rw[if_pos rfl]at H;obtain⟨vM,bMv,H⟩:=zO_ H;(try dsimp only at H);have A43:=zK_ bMv;clear bMv;by_cases c44:vM=true;rotate_left
     ·replace c44:=zdB c44;subst c44;rw[if_neg (show ¬ (false=true) by decide)]at H;exact absurd H (by simp)
     subst c44;rw[if_pos rfl]at H;obtain⟨vK,bSd,H⟩:=zO_ H;(try dsimp only at H);have A45:=zK_ bSd;clear bSd;by_cases c46:vK=true;rotate_left
     ·replace c46:=zdB c46;subst c46;rw[if_neg (show ¬ (false=true) by decide)]at H;exact absurd H (by simp)
     subst c46;rw[if_pos rfl]at H;by_cases c47:gU<0
     ·rw[if_pos c47]at H;have E9:=zdY c47;clear c47;exact absurd H (by simp)
     rw[if_neg c47]at H;have E9:=zdN c47;clear c47;obtain⟨sP,bSc,H⟩:=zO_ H;(try dsimp only at H);have A48:=zK_ bSc;clear bSc;by_cases c49:gU>sP
     ·rw[if_pos c49]at H;have yQ:decide (sP<gU)=true:=zdY c49;clear c49;exact absurd H (by simp)
     rw[if_neg c49]at H;have yQ:decide (sP<gU)=false:=zdN c49;clear c49;by_cases c50:dC>0;rotate_left
     ·rw[if_neg c50]at H;have uP:decide (0<dC)=false:=zdN c50;clear c50;have H':=zK_ H;clear H;have bC0:0<=(dC:Int):=zdT zz4;have bBy:dC<(cM.length:Int):=zdT zz4;obtain⟨xA,A119_0,c119_0,e119,qV,lW,hi119_0⟩:=aH8 (Kd.aEm eD.out).2.2 dC bC0 bBy;cases e119;obtain⟨bPe,aZd,aZg,aRb⟩:=Kd.aPr eD.out [] dC bC0 (by first|exact bBy|exact zdT zz4|(have e_:=(Kd.aEm eD.out).1;omega));obtain⟨ve119_0,rfl,ge119_0⟩:=aZg;have hv119_0:=aRb 0 _ rfl;rw[Nat.add_zero,show ((Kd.slice 3 (Kd.int .i64))).sz=1 from rfl,Nat.mul_one]at hv119_0;replace hv119_0:=zdI (hv119_0.symm.trans qV);rw[hv119_0]at ge119_0;have HL119_0:=zK_ (show Kd.R (Kd.int .i64) 3 _ _ _ _ (aBt cM dC) from ge119_0);clear hv119_0 ge119_0;clear aRb aZd;have HR119_0:=zK_ hi119_0;have HC119_0:=zK_ lW;clear hi119_0 lW;replace bC0:=eq_true bC0;replace bBy:=eq_true bBy;have IT:=aCe bI;have IS:=aCd bI;have GU:=aA0 bI.out 0;have GT:=aA0 bI.out 1;(try go_wp2_with (first|((with_reducible refine aA5 (f:=9) rfl ?_);refine aB8 (some 79) rfl rfl Tryz.func9 (by kernel_rfl) rfl #[.agg #[.int .i64 bO,.slice aGv aQ.length aG8],.slice A119_0 (aBt cM dC).length c119_0,.int .i64 (Int.tmod cV bO)] rfl zz3 ?_;(with_reducible refine(aCw.calls k2 bO _ _ aQ _ _ (aBt cM dC) (Int.tmod cV bO) oD true _ ?side1 ?side2 ?side3 ?side4 A37.out).mono ?_);(case side1=>exact bAv);(case side2=>exact(Kd.aAl bL.out).2.1);(case side3=>exact bEp);(case side4=>exact HC119_0.out);rintro e w73 ⟨bSq,rfl,ho0,hb⟩;refine⟨_,rfl,?_⟩;have n_:=zA9 (Kd.aFf bAq (Kd.aDn ho0) hb) (Kd.aFf bAp (Kd.aDn ho0) hb) (Kd.aFf bAs (Kd.aDn ho0) hb) (Kd.aBn bAt hb) (Kd.aDp aTx (Kd.aDn ho0) hb) (Kd.aCn (Kd.aEt ho0 (Kd.aIv aTx)) (aAa aKc)) (aA4 (g:=dW) (o:=.cells #[.int .i64 bO,.slice aGv aQ.length aG8] 25 (0,0)) aNw hb) (Kd.aC4 aXa hb) (aA1 aKc hb);clear gQ cW eD bL HL119_0 bI HR119_0 HB;obtain⟨gQ,cW,eD,bL,HL119_0,eY,bI,HR119_0,HB⟩:=n_;clear ho0 hb;have IR:=aCe bI;have IQ:=aCd bI;have GS:=aA0 bI.out 0;have GR:=aA0 bI.out 1;obtain⟨bRz,bRb,M5⟩:=Kd.aBr eY.out;subst M5)|((with_reducible refine aA5 (f:=10) rfl ?_);refine aB8 (some 86) rfl rfl Tryz.func10 (by kernel_rfl) rfl #[.agg #[.int .i64 bO,.slice aGv aQ.length aG8],.slice bRz oD.length bRb,.int .i64 (Int.tmod cV bO)] rfl zz3 ?_;(with_reducible refine(aCv.calls k2 bO _ _ aQ _ _ oD (Int.tmod cV bO) gP true _ ?side1 ?side2 ?side3 ?side4 A38.out).mono ?_);(case side1=>exact bAv);(case side2=>exact(Kd.aAl bL.out).2.1);(case side3=>exact bBe);(case side4=>exact(Kd.aAl eY.out).2.1);rintro e w76 ⟨bQm,rfl,ho0,hb⟩;refine⟨_,rfl,?_⟩;have n_:=aSa (Kd.aFf bAq (Kd.aDn ho0) hb) (Kd.aFf bAp (Kd.aDn ho0) hb) (Kd.aFf bAs (Kd.aDn ho0) hb) (Kd.aBn bAt hb) (Kd.aDp aTx (Kd.aDn ho0) hb) (Kd.aDp bAr (Kd.aDn ho0) hb) (Kd.aCn (Kd.aEt (Kd.aEt ho0 (Kd.aIv aTx)) (Kd.aIv bAr)) (aAa aKc)) (aA4 (g:=dW) (o:=.cells #[.int .i64 bO,.slice aGv aQ.length aG8] 25 (0,0)) aNw hb) (Kd.aC4 aXa hb) (aA1 aKc hb);clear gQ cW eD bL HL119_0 eY bI HR119_0 HB;obtain⟨gQ,cW,eD,bL,HL119_0,eY,dM,bI,HR119_0,HB⟩:=n_;clear ho0 hb;have IK:=aCe bI;have IJ:=aCd bI;have GM:=aA0 bI.out 0;have GL:=aA0 bI.out 1)|((with_reducible refine aA5 (f:=11) rfl ?_);refine aB8 (some 93) rfl rfl Tryz.func11 (by kernel_rfl) rfl #[.agg #[.int .i64 bO,.slice aGv aQ.length aG8],.slice A119_0 (aBt cM dC).length c119_0,.int .i64 (Int.tmod cV bO)] rfl zz3 ?_;(with_reducible refine(aCz.calls k2 bO _ _ aQ _ _ (aBt cM dC) (Int.tmod cV bO) gU true _ ?side1 ?side2 ?side3 ?side4 A39.out).mono ?_);(case side1=>exact bAv);(case side2=>exact(Kd.aAl bL.out).2.1);(case side3=>exact bEp);(case side4=>exact HC119_0.out);rintro e w78 ⟨rfl,hb⟩;refine⟨_,rfl,?_⟩;have n_:=aSa (Kd.aD8 bAq hb) (Kd.aD8 bAp hb) (Kd.aD8 bAs hb) (Kd.aBn bAt hb) (Kd.aBn aTx hb) (Kd.aBn bAr hb) (Kd.aBn aVo hb) (aA4 (g:=dW) (o:=.cells #[.int .i64 bO,.slice aGv aQ.length aG8] 25 (0,0)) aNw hb) (Kd.aC4 aXa hb) (aA1 aKc hb);clear gQ cW eD bL HL119_0 eY dM bI HR119_0 HB;obtain⟨gQ,cW,eD,bL,HL119_0,eY,dM,bI,HR119_0,HB⟩:=n_;clear hb)));have n_:=aSa (Kd.aE9 gQ.out) (Kd.aE9 cW.out) (Kd.aE9 eD.out) (Kd.aBd bL.out) (Kd.aBd HL119_0.out) (Kd.aBd eY.out) (Kd.aBd dM.out) (aA9 bI.out) (Kd.aDf HR119_0.out) (aAx HB.out);clear gQ cW eD bL HL119_0 eY dM bI HR119_0 HB;obtain⟨gQ,cW,eD,bL,HL119_0,eY,dM,bI,HR119_0,HB⟩:=n_;obtain⟨bUx,bU7,ER⟩:=Kd.aBr dM.out;(first|subst ER|(injection ER with f1_ f2_ f3_;have f4_:=f1_.symm;have f5_:=f3_.symm;clear f1_ f2_ f3_;subst f4_;subst f5_));refine aFp (n:=60) (S:=λw'=>w'.cell? ⟨dW,0,none⟩=some (.int .i64 bO)/\w'.cell? ⟨dW,1,none⟩=some (.slice aGv aQ.length aG8)) (ds:=[]) (zM 60 0) (by kernel_rfl) rfl rfl ⟨(aAc bI.out 0).trans rfl,(aAc bI.out 1).trans rfl⟩ (λhHeld=>?_);refine aE1 aAz.bJ1 aAz.bEb (λHT_ HW_=>?_);generalize w78.drew=w79 at gQ cW eD bL HL119_0 eY dM bI HR119_0 HB hHeld ⊢;refine zQ 0 96 (zM 60 1) ?_
      refine zQ 1 97 (zM 60 3) ?_
      refine zQ 2 98 (zM 60 7) ?_
      refine zQ 3 99 (zM 60 15) ?_
      refine zQ 4 100 (zM 60 31) ?_
      refine zQ 5 101 (zM 60 63) ?_
      refine zQ 6 102 (zM 60 127) ?_
      refine zQ 7 103 (zM 60 255) ?_
      refine zQ 8 104 (zM 60 511) ?_
      refine zQ 9 105 (zM 60 1023) ?_
      refine zQ 10 106 (zM 60 2047) ?_
      refine zQ 11 107 (zM 60 4095) ?_
      refine zQ 12 108 (zM 60 8191) ?_
      refine aHv (i:=13) (N:=some 109) (zM 60 16383) rfl rfl (aE3 HT_.out (by kernel_rfl)) (by decide) (λK hK=>?_);refine aG5 Tryz.func12 (by kernel_rfl) rfl #[.slice bUx gP.length bU7,.slice A119_0 (aBt cM dC).length c119_0] (by rfl) rfl rfl zz3 ?_;(with_reducible refine(aD3.calls k2 _ _ gP _ _ (aBt cM dC) true _ ?side1 ?side2 ?side3 ?side4 A43.out).mono ?_);(case side1=>repeat(first|exact(Kd.aAl dM.out).2.2|(with_reducible refine Kd.aCy ?_ _)|(with_reducible refine Kd.aCx ?_ _)|(with_reducible refine Kd.aDf ?_)));(case side2=>exact(Kd.aAl dM.out).2.1);(case side3=>exact bEp);(case side4=>exact HC119_0.out);rintro e w' ⟨rfl,⟨nd,rfl⟩⟩;refine⟨_,rfl,?_⟩;refine hK.out _ _ ⟨(aAc bI.out 0).trans rfl,(aAc bI.out 1).trans rfl⟩ (λhHeld=>?_);clear hK K;refine aEd (a':=?_) ?_ ?_;rotate_left
      ·show Act.put _ (some 109) _=_;exact zzS
      refine zQ 14 110 (zM 60 32767) ?_
      refine zQ 15 111 (zM 60 65535) ?_
      refine zQ 16 112 (zM 60 131071) ?_
      refine zQ 18 114 (zM 60 393215) ?_
      refine zQ 19 115 (zM 60 917503) ?_
      refine aE6 (i:=17) (N:=some 113) (v:=?_) (a':=?_) (zM 60 1048575) rfl rfl (aC7 HT_.out HW_.out (by kernel_rfl)) (λ_ _ _ h=>h) (Or.inl ⟨by rfl,?_⟩) hHeld ?_ ?_;rotate_left
      ·rintro w' ⟨s0,s1⟩;exact zzT
      rotate_left
      ·exact zzS
      refine aHv (i:=20) (N:=some 116) (zM 60 2097151) rfl rfl (aE3 HT_.out (by kernel_rfl)) (by decide) (λK hK=>?_);refine aG5 Tryz.func13 (by kernel_rfl) rfl #[.agg #[.int .i64 bO,.slice aGv aQ.length aG8],.slice bRz oD.length bRb,.int .i64 (Int.tmod cV bO)] (by rfl) rfl rfl zz3 ?_;(with_reducible refine(aCr.calls k2 bO _ _ aQ _ _ oD (Int.tmod cV bO) true _ ?side1 ?side2 ?side3 ?side4 A45.out).mono ?_);(case side1=>exact bAv);(case side2=>exact(Kd.aAl bL.out).2.1);(case side3=>exact bBe);(case side4=>exact(Kd.aAl eY.out).2.1);rintro e w81 ⟨rfl,hb⟩;refine⟨_,rfl,?_⟩;have n_:=aSa (Kd.aD8 bAq hb) (Kd.aD8 bAp hb) (Kd.aD8 bAs hb) (Kd.aBn bAt hb) (Kd.aBn aTx hb) (Kd.aBn bAr hb) (Kd.aBn aVo hb) (aA4 (g:=dW) (o:=.cells #[.int .i64 bO,.slice aGv aQ.length aG8] 25 (0,0)) aNw hb) (Kd.aC4 aXa hb) (aA1 aKc hb);clear gQ cW eD bL HL119_0 eY dM bI HR119_0 HB;obtain⟨gQ,cW,eD,bL,HL119_0,eY,dM,bI,HR119_0,HB⟩:=n_;clear hb;refine hK.out _ _ ⟨(aAc bI.out 0).trans rfl,(aAc bI.out 1).trans rfl⟩ (λhHeld=>?_);clear hK K;refine aEd (a':=?_) ?_ ?_;rotate_left
      ·show Act.put _ (some 116) _=_;exact zzS
      refine zQ 21 117 (zM 60 4194303) ?_
      refine zQ 22 118 (zM 60 8388607) ?_
      refine zQ 23 119 (zM 60 16777215) ?_
      refine zQ 24 120 (zM 60 33554431) ?_
      refine zQ 25 121 (zM 60 67108863) ?_
      refine zQ 26 122 (zM 60 134217727) ?_
      refine zQ 27 123 (zM 60 268435455) ?_
      refine zQ 28 124 (zM 60 536870911) ?_
      refine aE6 (i:=29) (N:=some 125) (v:=?_) (a':=?_) (zM 60 1073741823) rfl rfl (aC7 HT_.out HW_.out (by kernel_rfl)) (λ_ _ _ h=>h) (Or.inl ⟨by rfl,?_⟩) hHeld ?_ ?_;rotate_left
      ·rintro w' ⟨s0,s1⟩;exact zzT
      rotate_left
      ·exact zzS
      refine aHv (i:=30) (N:=some 126) (zM 60 2147483647) rfl rfl (aE3 HT_.out (by kernel_rfl)) (by decide) (λK hK=>?_);refine aG5 Tryz.func14 (by kernel_rfl) rfl #[.agg #[.int .i64 bO,.slice aGv aQ.length aG8]] (by rfl) rfl rfl zz3 ?_;(with_reducible refine(aFq.calls bO _ _ aQ sP _ ?side1 ?side2 A48.out).mono ?_);(case side1=>exact bAv);(case side2=>exact(Kd.aAl bL.out).2.1);rintro e w82 ⟨rfl,hb⟩;refine⟨_,rfl,?_⟩;have n_:=aSa (Kd.aD8 bAq hb) (Kd.aD8 bAp hb) (Kd.aD8 bAs hb) (Kd.aBn bAt hb) (Kd.aBn aTx hb) (Kd.aBn bAr hb) (Kd.aBn aVo hb) (aA4 (g:=dW) (o:=.cells #[.int .i64 bO,.slice aGv aQ.length aG8] 25 (0,0)) aNw hb) (Kd.aC4 aXa hb) (aA1 aKc hb);clear gQ cW eD bL HL119_0 eY dM bI HR119_0 HB;obtain⟨gQ,cW,eD,bL,HL119_0,eY,dM,bI,HR119_0,HB⟩:=n_;clear hb;refine hK.out _ _ ⟨(aAc bI.out 0).trans rfl,(aAc bI.out 1).trans rfl⟩ (λhHeld=>?_);clear hK K;refine aEd (a':=?_) ?_ ?_;rotate_left
      ·show Act.put _ (some 126) _=_;exact zzS
      refine zQ 31 127 (zM 60 4294967295) ?_
      refine zQ 32 128 (zM 60 8589934591) ?_
      refine zQ 33 129 (zM 60 17179869183) ?_
      refine zQ 34 130 (zM 60 34359738367) ?_
      refine zQ 35 131 (zM 60 68719476735) ?_
      refine zQ 36 132 (zM 60 137438953471) ?_
      refine zU 37 133 (zM 60 274877906943) rfl rfl HT_.out ?_ ?_ ?_;rotate_left
      ·exact zzS
      refine zU 38 134 (zM 60 549755813887) rfl rfl HT_.out ?_ ?_ ?_;rotate_left
      ·exact zzS
      refine zU 39 135 (zM 60 1099511627775) rfl rfl HT_.out ?_ ?_ ?_;rotate_left
      ·exact zzS
      refine zU 40 136 (zM 60 2199023255551) rfl rfl HT_.out ?_ ?_ ?_;rotate_left
      ·exact zzS
      refine zU 41 137 (zM 60 4398046511103) rfl rfl HT_.out ?_ ?_ ?_;rotate_left
      ·exact zzS
      refine zU 42 138 (zM 60 8796093022207) rfl rfl HT_.out ?_ ?_ ?_;rotate_left
      ·exact zzS
      refine zU 43 139 (zM 60 17592186044415) rfl rfl HT_.out ?_ ?_ ?_;rotate_left
      ·exact zzS
      refine zU 44 140 (zM 60 35184372088831) rfl rfl HT_.out ?_ ?_ ?_;rotate_left
      ·exact zzS
      refine zU 45 141 (zM 60 70368744177663) rfl rfl HT_.out ?_ ?_ ?_;rotate_left
      ·exact zzS
      refine zU 46 142 (zM 60 140737488355327) rfl rfl HT_.out ?_ ?_ ?_;rotate_left
      ·exact zzS
      refine zU 47 143 (zM 60 281474976710655) rfl rfl HT_.out ?_ ?_ ?_;rotate_left
      ·exact zzS
      refine zU 48 144 (zM 60 562949953421311) rfl rfl HT_.out ?_ ?_ ?_;rotate_left
      ·exact zzS
      refine zU 49 145 (zM 60 1125899906842623) rfl rfl HT_.out ?_ ?_ ?_;rotate_left
      ·exact zzS
      refine zU 50 146 (zM 60 2251799813685247) rfl rfl HT_.out ?_ ?_ ?_;rotate_left
      ·exact zzS
      refine zU 51 147 (zM 60 4503599627370495) rfl rfl HT_.out ?_ ?_ ?_;rotate_left
      ·exact zzS
      refine zU 52 148 (zM 60 9007199254740991) rfl rfl HT_.out ?_ ?_ ?_;rotate_left
      ·exact zzS
      refine zU 53 149 (zM 60 18014398509481983) rfl rfl HT_.out ?_ ?_ ?_;rotate_left
      ·exact zzS
      refine zU 54 150 (zM 60 36028797018963967) rfl rfl HT_.out ?_ ?_ ?_;rotate_left
      ·exact zzS
      refine zU 55 151 (zM 60 72057594037927935) rfl rfl HT_.out ?_ ?_ ?_;rotate_left
      ·exact zzS
      refine zU 56 152 (zM 60 144115188075855871) rfl rfl HT_.out ?_ ?_ ?_;rotate_left
      ·exact zzS
      refine zU 57 153 (zM 60 288230376151711743) rfl rfl HT_.out ?_ ?_ ?_;rotate_left
      ·exact zzS
      refine zQ 58 154 (zM 60 576460752303423487) ?_
      refine zQ 59 155 (zM 60 1152921504606846975) ?_
      refine aH4 (aF8 HT_.out (by kernel_rfl)) ?_;(try go_wp2);go_roundg k2;(case measure=>have:=HJ8.out;have:=HK2.out;omega);case rel=>exact⟨(wrap64 (dC+1)),zz6,H',⟨by have:=HJ8.out;have:=HK2.out;omega⟩,⟨by(with_reducible repeat(first|apply Kd.aE0|apply Kd.aDz|apply Kd.aE9));exact Kd.aE4 gQ.out (λ_ hk=>hk.1.1)⟩,⟨by(with_reducible repeat(first|apply Kd.aE0|apply Kd.aDz|apply Kd.aE9));exact Kd.aE4 cW.out (λ_ hk=>⟨hk.1.1.1,hk.1.1.2⟩)⟩,⟨by(with_reducible repeat(first|apply Kd.aE0|apply Kd.aDz|apply Kd.aE9));exact Kd.aE4 eD.out (λ_ hk=>hk.1.1)⟩,⟨by(with_reducible repeat(first|apply Kd.aB6|apply Kd.aB5|apply Kd.aBd));exact bL.out⟩,⟨aNw⟩,⟨aKc⟩⟩
     rw[if_pos c50]at H;have uP:decide (0<dC)=true:=zdY c50;clear c50;obtain⟨jZ,mQ⟩:∃ j_:Int,(wrap64 (dC-1))=j_:=⟨_,rfl⟩;(replace H:(if 0<=(jZ) then(if(jZ)<(cM.length:Int) then((aCu.f k2 (aBt cM (jZ)) (aBt cM dC)).bind λvJ=>(if vJ=true then(if(jZ)<(f9.length:Int) then(if dC<(f9.length:Int) then((aCu.f k2 (aBt f9 (jZ)) (aBt f9 dC)).bind λvI=>(if vI=true then(aAz.l0 k2 (Int.tmod cV bO) cM f9 cM (cM.length:Int) (wrap64 (dC+1)) bO aQ) else(none))) else(none)) else(none)) else(none))) else(none)) else(none))=some r:=by first|(rw[mQ]at H;exact H)|(simp only[mQ]at H ⊢;exact H));(try rw[mQ]at A37);(try rw[mQ]at A38);(try rw[mQ]at A39);(try rw[mQ]at A43);(try rw[mQ]at A45);(try rw[mQ]at A48);have LQ:(IntKind.i64.wrap (dC-1))=jZ:=(aFm _).trans mQ;by_cases c52:0<=(jZ);rotate_left
     ·rw[if_neg c52]at H;exact absurd H (by simp)
     rw[if_pos c52]at H;have E7:=zdY c52;clear c52;by_cases c53:(jZ)<(cM.length:Int);rotate_left
     ·rw[if_neg c53]at H;exact absurd H (by simp)
     rw[if_pos c53]at H;have QJ:=zdY c53;clear c53;obtain⟨vJ,bS9,H⟩:=zO_ H;(try dsimp only at H);have A54:=zK_ bS9;clear bS9;by_cases c55:vJ=true;rotate_left
     ·replace c55:=zdB c55;subst c55;rw[if_neg (show ¬ (false=true) by decide)]at H;exact absurd H (by simp)
     subst c55;rw[if_pos rfl]at H;by_cases c56:(jZ)<(f9.length:Int);rotate_left
     ·rw[if_neg c56]at H;exact absurd H (by simp)
     rw[if_pos c56]at H;have QG:=zdY c56;clear c56;by_cases c57:dC<(f9.length:Int);rotate_left
     ·rw[if_neg c57]at H;exact absurd H (by simp)
     rw[if_pos c57]at H;have QF:=zdY c57;clear c57;obtain⟨vI,bS7,H⟩:=zO_ H;(try dsimp only at H);have A58:=zK_ bS7;clear bS7;by_cases c59:vI=true;rotate_left
     ·replace c59:=zdB c59;subst c59;rw[if_neg (show ¬ (false=true) by decide)]at H;exact absurd H (by simp)
     subst c59;rw[if_pos rfl]at H;have H':=zK_ H;clear H;have bC0:0<=(dC:Int):=zdT zz4;have bBy:dC<(cM.length:Int):=zdT zz4;obtain⟨xA,A119_0,c119_0,e119,qV,lW,hi119_0⟩:=aH8 (Kd.aEm eD.out).2.2 dC bC0 bBy;cases e119;obtain⟨bPe,aZd,aZg,aRb⟩:=Kd.aPr eD.out [] dC bC0 (by first|exact bBy|exact zdT zz4|(have e_:=(Kd.aEm eD.out).1;omega));obtain⟨ve119_0,rfl,ge119_0⟩:=aZg;have hv119_0:=aRb 0 _ rfl;rw[Nat.add_zero,show ((Kd.slice 3 (Kd.int .i64))).sz=1 from rfl,Nat.mul_one]at hv119_0;replace hv119_0:=zdI (hv119_0.symm.trans qV);rw[hv119_0]at ge119_0;have HL119_0:=zK_ (show Kd.R (Kd.int .i64) 3 _ _ _ _ (aBt cM dC) from ge119_0);clear hv119_0 ge119_0;clear aRb aZd;have HR119_0:=zK_ hi119_0;have HC119_0:=zK_ lW;clear hi119_0 lW;replace bC0:=eq_true bC0;replace bBy:=eq_true bBy;have xX:=aCe bI;have xW:=aCd bI;have xR:=aA0 bI.out 0;have xQ:=aA0 bI.out 1;(try go_wp2_with (first|((with_reducible refine aA5 (f:=9) rfl ?_);refine aB8 (some 79) rfl rfl Tryz.func9 (by kernel_rfl) rfl #[.agg #[.int .i64 bO,.slice aGv aQ.length aG8],.slice A119_0 (aBt cM dC).length c119_0,.int .i64 (Int.tmod cV bO)] rfl zz3 ?_;(with_reducible refine(aCw.calls k2 bO _ _ aQ _ _ (aBt cM dC) (Int.tmod cV bO) oD true _ ?side1 ?side2 ?side3 ?side4 A37.out).mono ?_);(case side1=>exact bAv);(case side2=>exact(Kd.aAl bL.out).2.1);(case side3=>exact bEp);(case side4=>exact HC119_0.out);rintro e w61 ⟨bSq,rfl,ho0,hb⟩;refine⟨_,rfl,?_⟩;have n_:=zA9 (Kd.aFf bAq (Kd.aDn ho0) hb) (Kd.aFf bAp (Kd.aDn ho0) hb) (Kd.aFf bAs (Kd.aDn ho0) hb) (Kd.aBn bAt hb) (Kd.aDp aTx (Kd.aDn ho0) hb) (Kd.aCn (Kd.aEt ho0 (Kd.aIv aTx)) (aAa aKc)) (aA4 (g:=dW) (o:=.cells #[.int .i64 bO,.slice aGv aQ.length aG8] 25 (0,0)) aNw hb) (Kd.aC4 aXa hb) (aA1 aKc hb);clear gQ cW eD bL HL119_0 bI HR119_0 HB;obtain⟨gQ,cW,eD,bL,HL119_0,eY,bI,HR119_0,HB⟩:=n_;clear ho0 hb;have I5:=aCe bI;have I4:=aCd bI;have G6:=aA0 bI.out 0;have G5:=aA0 bI.out 1;obtain⟨bS1,bRd,M8⟩:=Kd.aBr eY.out;subst M8)|((with_reducible refine aA5 (f:=10) rfl ?_);refine aB8 (some 86) rfl rfl Tryz.func10 (by kernel_rfl) rfl #[.agg #[.int .i64 bO,.slice aGv aQ.length aG8],.slice bS1 oD.length bRd,.int .i64 (Int.tmod cV bO)] rfl zz3 ?_;(with_reducible refine(aCv.calls k2 bO _ _ aQ _ _ oD (Int.tmod cV bO) gP true _ ?side1 ?side2 ?side3 ?side4 A38.out).mono ?_);(case side1=>exact bAv);(case side2=>exact(Kd.aAl bL.out).2.1);(case side3=>exact bBe);(case side4=>exact(Kd.aAl eY.out).2.1);rintro e w64 ⟨bQm,rfl,ho0,hb⟩;refine⟨_,rfl,?_⟩;have n_:=aSa (Kd.aFf bAq (Kd.aDn ho0) hb) (Kd.aFf bAp (Kd.aDn ho0) hb) (Kd.aFf bAs (Kd.aDn ho0) hb) (Kd.aBn bAt hb) (Kd.aDp aTx (Kd.aDn ho0) hb) (Kd.aDp bAr (Kd.aDn ho0) hb) (Kd.aCn (Kd.aEt (Kd.aEt ho0 (Kd.aIv aTx)) (Kd.aIv bAr)) (aAa aKc)) (aA4 (g:=dW) (o:=.cells #[.int .i64 bO,.slice aGv aQ.length aG8] 25 (0,0)) aNw hb) (Kd.aC4 aXa hb) (aA1 aKc hb);clear gQ cW eD bL HL119_0 eY bI HR119_0 HB;obtain⟨gQ,cW,eD,bL,HL119_0,eY,dM,bI,HR119_0,HB⟩:=n_;clear ho0 hb;have IZ:=aCe bI;have IY:=aCd bI;have G0:=aA0 bI.out 0;have GZ:=aA0 bI.out 1)|((with_reducible refine aA5 (f:=11) rfl ?_);refine aB8 (some 93) rfl rfl Tryz.func11 (by kernel_rfl) rfl #[.agg #[.int .i64 bO,.slice aGv aQ.length aG8],.slice A119_0 (aBt cM dC).length c119_0,.int .i64 (Int.tmod cV bO)] rfl zz3 ?_;(with_reducible refine(aCz.calls k2 bO _ _ aQ _ _ (aBt cM dC) (Int.tmod cV bO) gU true _ ?side1 ?side2 ?side3 ?side4 A39.out).mono ?_);(case side1=>exact bAv);(case side2=>exact(Kd.aAl bL.out).2.1);(case side3=>exact bEp);(case side4=>exact HC119_0.out);rintro e w66 ⟨rfl,hb⟩;refine⟨_,rfl,?_⟩;have n_:=aSa (Kd.aD8 bAq hb) (Kd.aD8 bAp hb) (Kd.aD8 bAs hb) (Kd.aBn bAt hb) (Kd.aBn aTx hb) (Kd.aBn bAr hb) (Kd.aBn aVo hb) (aA4 (g:=dW) (o:=.cells #[.int .i64 bO,.slice aGv aQ.length aG8] 25 (0,0)) aNw hb) (Kd.aC4 aXa hb) (aA1 aKc hb);clear gQ cW eD bL HL119_0 eY dM bI HR119_0 HB;obtain⟨gQ,cW,eD,bL,HL119_0,eY,dM,bI,HR119_0,HB⟩:=n_;clear hb)));have n_:=aSa (Kd.aE9 gQ.out) (Kd.aE9 cW.out) (Kd.aE9 eD.out) (Kd.aBd bL.out) (Kd.aBd HL119_0.out) (Kd.aBd eY.out) (Kd.aBd dM.out) (aA9 bI.out) (Kd.aDf HR119_0.out) (aAx HB.out);clear gQ cW eD bL HL119_0 eY dM bI HR119_0 HB;obtain⟨gQ,cW,eD,bL,HL119_0,eY,dM,bI,HR119_0,HB⟩:=n_;obtain⟨bUy,bU8,ET⟩:=Kd.aBr dM.out;(first|subst ET|(injection ET with f1_ f2_ f3_;have f4_:=f1_.symm;have f5_:=f3_.symm;clear f1_ f2_ f3_;subst f4_;subst f5_));have bNk:0<=((jZ):Int):=zdT zz4;have bNd:(jZ)<(cM.length:Int):=zdT zz4;obtain⟨FD,A133_0,c133_0,bU2,qS,tQ,hi133_0⟩:=aH8 (Kd.aEm gQ.out).2.2 (jZ) bNk bNd;obtain rfl:xA=FD:=(by injection bU2);obtain⟨bUf,bKk,bKq,bE3⟩:=Kd.aPr gQ.out [] (jZ) bNk (by first|exact bNd|exact zdT zz4|(have e_:=(Kd.aEm gQ.out).1;omega));obtain⟨ve133_0,rfl,ge133_0⟩:=bKq;have hv133_0:=bE3 0 _ rfl;rw[Nat.add_zero,show ((Kd.slice 3 (Kd.int .i64))).sz=1 from rfl,Nat.mul_one]at hv133_0;replace hv133_0:=zdI (hv133_0.symm.trans qS);rw[hv133_0]at ge133_0;have HL133_0:=zK_ (show Kd.R (Kd.int .i64) 3 _ _ _ _ (aBt cM (jZ)) from ge133_0);clear hv133_0 ge133_0;clear bE3 bKk;have HR133_0:=zK_ hi133_0;have HC133_0:=zK_ tQ;clear hi133_0 tQ;replace bNk:=eq_true bNk;replace bNd:=eq_true bNd;obtain⟨zq1,zq2,zq3⟩:=Kd.aGa cW.out;(first|subst zq3|skip);have bNj:0<=((jZ):Int):=zdT zz4;have bNc:(jZ)<(f9.length:Int):=zdT zz4;obtain⟨wZ,A135_0,c135_0,bU1,qR,oQ,hi135_0⟩:=aH8 (Kd.aEm cW.out).2.2 (jZ) bNj bNc;cases bU1;obtain⟨bUe,bKj,bKp,bE2⟩:=Kd.aPr cW.out [] (jZ) bNj (by first|exact bNc|exact zdT zz4|(have e_:=(Kd.aEm cW.out).1;omega));obtain⟨ve135_0,rfl,ge135_0⟩:=bKp;have hv135_0:=bE2 0 _ rfl;rw[Nat.add_zero,show ((Kd.slice 3 (Kd.int .i64))).sz=1 from rfl,Nat.mul_one]at hv135_0;replace hv135_0:=zdI (hv135_0.symm.trans qR);rw[hv135_0]at ge135_0;have HL135_0:=zK_ (show Kd.R (Kd.int .i64) 3 _ _ _ _ (aBt f9 (jZ)) from ge135_0);clear hv135_0 ge135_0;clear bE2 bKj;have HR135_0:=zK_ hi135_0;have HC135_0:=zK_ oQ;clear hi135_0 oQ;replace bNj:=eq_true bNj;replace bNc:=eq_true bNc;have bNi:0<=(dC:Int):=zdT zz4;have bNb:dC<(f9.length:Int):=zdT zz4;obtain⟨FC,A136_0,c136_0,bU0,qQ,oP,hi136_0⟩:=aH8 (Kd.aEm cW.out).2.2 dC bNi bNb;obtain rfl:wZ=FC:=(by injection bU0);obtain⟨bUd,bKi,bKo,bE1⟩:=Kd.aPr cW.out [] dC bNi (by first|exact bNb|exact zdT zz4|(have e_:=(Kd.aEm cW.out).1;omega));obtain⟨ve136_0,rfl,ge136_0⟩:=bKo;have hv136_0:=bE1 0 _ rfl;rw[Nat.add_zero,show ((Kd.slice 3 (Kd.int .i64))).sz=1 from rfl,Nat.mul_one]at hv136_0;replace hv136_0:=zdI (hv136_0.symm.trans qQ);rw[hv136_0]at ge136_0;have HL136_0:=zK_ (show Kd.R (Kd.int .i64) 3 _ _ _ _ (aBt f9 dC) from ge136_0);clear hv136_0 ge136_0;clear bE1 bKi;have HR136_0:=zK_ hi136_0;have HC136_0:=zK_ oP;clear hi136_0 oP;replace bNi:=eq_true bNi;replace bNb:=eq_true bNb;refine aFp (n:=60) (S:=λw'=>w'.cell? ⟨dW,0,none⟩=some (.int .i64 bO)/\w'.cell? ⟨dW,1,none⟩=some (.slice aGv aQ.length aG8)/\w'.cell? (xA.add ((jZ)).toNat)=some (.slice A133_0 (aBt cM (jZ)).length c133_0)/\w'.cell? (wZ.add ((jZ)).toNat)=some (.slice A135_0 (aBt f9 (jZ)).length c135_0)/\w'.cell? (wZ.add (dC).toNat)=some (.slice A136_0 (aBt f9 dC).length c136_0)) (ds:=[]) (zM 60 0) (by kernel_rfl) rfl rfl ⟨(aAc bI.out 0).trans rfl,(aAc bI.out 1).trans rfl,qS,qR,qQ⟩ (λhHeld=>?_);refine aE1 aAz.bJ1 aAz.bEb (λHT_ HW_=>?_);generalize w66.drew=w67 at gQ cW eD bL HL119_0 eY dM bI HR119_0 HB HL133_0 HL135_0 HL136_0 HR133_0 HR135_0 HR136_0 qS qR qQ hHeld ⊢;refine zQ 0 96 (zM 60 1) ?_
     refine zQ 1 97 (zM 60 3) ?_
     refine zQ 2 98 (zM 60 7) ?_
     refine zQ 3 99 (zM 60 15) ?_
     refine zQ 4 100 (zM 60 31) ?_
     refine zQ 5 101 (zM 60 63) ?_
     refine zQ 6 102 (zM 60 127) ?_
     refine zQ 7 103 (zM 60 255) ?_
     refine zQ 8 104 (zM 60 511) ?_
     refine zQ 9 105 (zM 60 1023) ?_
     refine zQ 10 106 (zM 60 2047) ?_
     refine zQ 11 107 (zM 60 4095) ?_
     refine zQ 12 108 (zM 60 8191) ?_
     refine aHv (i:=13) (N:=some 109) (zM 60 16383) rfl rfl (aE3 HT_.out (by kernel_rfl)) (by decide) (λK hK=>?_);refine aG5 Tryz.func12 (by kernel_rfl) rfl #[.slice bUy gP.length bU8,.slice A119_0 (aBt cM dC).length c119_0] (by rfl) rfl rfl zz3 ?_;(with_reducible refine(aD3.calls k2 _ _ gP _ _ (aBt cM dC) true _ ?side1 ?side2 ?side3 ?side4 A43.out).mono ?_);(case side1=>repeat(first|exact(Kd.aAl dM.out).2.2|(with_reducible refine Kd.aCy ?_ _)|(with_reducible refine Kd.aCx ?_ _)|(with_reducible refine Kd.aDf ?_)));(case side2=>exact(Kd.aAl dM.out).2.1);(case side3=>exact bEp);(case side4=>exact HC119_0.out);rintro e w' ⟨rfl,⟨nd,rfl⟩⟩;refine⟨_,rfl,?_⟩;refine hK.out _ _ ⟨(aAc bI.out 0).trans rfl,(aAc bI.out 1).trans rfl,hHeld.2.2.1,hHeld.2.2.2.1,hHeld.2.2.2.2⟩ (λhHeld=>?_);clear hK K;refine aEd (a':=?_) ?_ ?_;rotate_left
     ·show Act.put _ (some 109) _=_;exact zzS
     refine zQ 14 110 (zM 60 32767) ?_
     refine zQ 15 111 (zM 60 65535) ?_
     refine zQ 16 112 (zM 60 131071) ?_
     refine zQ 18 114 (zM 60 393215) ?_
     refine zQ 19 115 (zM 60 917503) ?_
     refine aE6 (i:=17) (N:=some 113) (v:=?_) (a':=?_) (zM 60 1048575) rfl rfl (aC7 HT_.out HW_.out (by kernel_rfl)) (λ_ _ _ h=>h) (Or.inl ⟨by rfl,?_⟩) hHeld ?_ ?_;rotate_left
     ·rintro w' ⟨s0,s1,s2,s3,s4⟩;exact zzT
     rotate_left
     ·exact zzS
     refine aHv (i:=20) (N:=some 116) (zM 60 2097151) rfl rfl (aE3 HT_.out (by kernel_rfl)) (by decide) (λK hK=>?_);refine aG5 Tryz.func13 (by kernel_rfl) rfl #[.agg #[.int .i64 bO,.slice aGv aQ.length aG8],.slice bS1 oD.length bRd,.int .i64 (Int.tmod cV bO)] (by rfl) rfl rfl zz3 ?_;(with_reducible refine(aCr.calls k2 bO _ _ aQ _ _ oD (Int.tmod cV bO) true _ ?side1 ?side2 ?side3 ?side4 A45.out).mono ?_);(case side1=>exact bAv);(case side2=>exact(Kd.aAl bL.out).2.1);(case side3=>exact bBe);(case side4=>exact(Kd.aAl eY.out).2.1);rintro e w69 ⟨rfl,hb⟩;have bDe:=(hb.cell (World.block_lt_of_cell? _ _ (hHeld.2.2.1))).trans (hHeld.2.2.1);have bPu:=(hb.cell (World.block_lt_of_cell? _ _ (hHeld.2.2.2.1))).trans (hHeld.2.2.2.1);have bPt:=(hb.cell (World.block_lt_of_cell? _ _ (hHeld.2.2.2.2))).trans (hHeld.2.2.2.2);refine⟨_,rfl,?_⟩;have n_:=aSa (Kd.aD8 bAq hb) (Kd.aD8 bAp hb) (Kd.aD8 bAs hb) (Kd.aBn bAt hb) (Kd.aBn aTx hb) (Kd.aBn bAr hb) (Kd.aBn aVo hb) (aA4 (g:=dW) (o:=.cells #[.int .i64 bO,.slice aGv aQ.length aG8] 25 (0,0)) aNw hb) (Kd.aC4 aXa hb) (aA1 aKc hb);clear gQ cW eD bL HL119_0 eY dM bI HR119_0 HB;obtain⟨gQ,cW,eD,bL,HL119_0,eY,dM,bI,HR119_0,HB⟩:=n_;have HR133_0:=zK_ (Kd.aC4 (by repeat(first|(with_reducible exact HR133_0.out)|(with_reducible refine Kd.aCy ?_ _)|(with_reducible refine Kd.aCx ?_ _)|(with_reducible refine Kd.aDf ?_)|exact HR133_0.out)) hb);have HR135_0:=zK_ (Kd.aC4 (by repeat(first|(with_reducible exact HR135_0.out)|(with_reducible refine Kd.aCy ?_ _)|(with_reducible refine Kd.aCx ?_ _)|(with_reducible refine Kd.aDf ?_)|exact HR135_0.out)) hb);have HR136_0:=zK_ (Kd.aC4 (by repeat(first|(with_reducible exact HR136_0.out)|(with_reducible refine Kd.aCy ?_ _)|(with_reducible refine Kd.aCx ?_ _)|(with_reducible refine Kd.aDf ?_)|exact HR136_0.out)) hb);(try clear hb);(try clear hb2);(try clear hk);(try clear hi);refine hK.out _ _ ⟨(aAc bI.out 0).trans rfl,(aAc bI.out 1).trans rfl,bDe,bPu,bPt⟩ (λhHeld=>?_);clear hK K;refine aEd (a':=?_) ?_ ?_;rotate_left
     ·show Act.put _ (some 116) _=_;exact zzS
     refine zQ 21 117 (zM 60 4194303) ?_
     refine zQ 22 118 (zM 60 8388607) ?_
     refine zQ 23 119 (zM 60 16777215) ?_
     refine zQ 24 120 (zM 60 33554431) ?_
     refine zQ 25 121 (zM 60 67108863) ?_
     refine zQ 26 122 (zM 60 134217727) ?_
     refine zQ 27 123 (zM 60 268435455) ?_
     refine zQ 28 124 (zM 60 536870911) ?_
     refine aE6 (i:=29) (N:=some 125) (v:=?_) (a':=?_) (zM 60 1073741823) rfl rfl (aC7 HT_.out HW_.out (by kernel_rfl)) (λ_ _ _ h=>h) (Or.inl ⟨by rfl,?_⟩) hHeld ?_ ?_;rotate_left
     ·rintro w' ⟨s0,s1,s2,s3,s4⟩;exact zzT
     rotate_left
     ·exact zzS
     refine aHv (i:=30) (N:=some 126) (zM 60 2147483647) rfl rfl (aE3 HT_.out (by kernel_rfl)) (by decide) (λK hK=>?_);refine aG5 Tryz.func14 (by kernel_rfl) rfl #[.agg #[.int .i64 bO,.slice aGv aQ.length aG8]] (by rfl) rfl rfl zz3 ?_;(with_reducible refine(aFq.calls bO _ _ aQ sP _ ?side1 ?side2 A48.out).mono ?_);(case side1=>exact bAv);(case side2=>exact(Kd.aAl bL.out).2.1);rintro e w70 ⟨rfl,hb⟩;have bDe:=(hb.cell (World.block_lt_of_cell? _ _ (hHeld.2.2.1))).trans (hHeld.2.2.1);have bPu:=(hb.cell (World.block_lt_of_cell? _ _ (hHeld.2.2.2.1))).trans (hHeld.2.2.2.1);have bPt:=(hb.cell (World.block_lt_of_cell? _ _ (hHeld.2.2.2.2))).trans (hHeld.2.2.2.2);refine⟨_,rfl,?_⟩;have n_:=aSa (Kd.aD8 bAq hb) (Kd.aD8 bAp hb) (Kd.aD8 bAs hb) (Kd.aBn bAt hb) (Kd.aBn aTx hb) (Kd.aBn bAr hb) (Kd.aBn aVo hb) (aA4 (g:=dW) (o:=.cells #[.int .i64 bO,.slice aGv aQ.length aG8] 25 (0,0)) aNw hb) (Kd.aC4 aXa hb) (aA1 aKc hb);clear gQ cW eD bL HL119_0 eY dM bI HR119_0 HB;obtain⟨gQ,cW,eD,bL,HL119_0,eY,dM,bI,HR119_0,HB⟩:=n_;have HR133_0:=zK_ (Kd.aC4 (by repeat(first|(with_reducible exact HR133_0.out)|(with_reducible refine Kd.aCy ?_ _)|(with_reducible refine Kd.aCx ?_ _)|(with_reducible refine Kd.aDf ?_)|exact HR133_0.out)) hb);have HR135_0:=zK_ (Kd.aC4 (by repeat(first|(with_reducible exact HR135_0.out)|(with_reducible refine Kd.aCy ?_ _)|(with_reducible refine Kd.aCx ?_ _)|(with_reducible refine Kd.aDf ?_)|exact HR135_0.out)) hb);have HR136_0:=zK_ (Kd.aC4 (by repeat(first|(with_reducible exact HR136_0.out)|(with_reducible refine Kd.aCy ?_ _)|(with_reducible refine Kd.aCx ?_ _)|(with_reducible refine Kd.aDf ?_)|exact HR136_0.out)) hb);(try clear hb);(try clear hb2);(try clear hk);(try clear hi);refine hK.out _ _ ⟨(aAc bI.out 0).trans rfl,(aAc bI.out 1).trans rfl,bDe,bPu,bPt⟩ (λhHeld=>?_);clear hK K;refine aEd (a':=?_) ?_ ?_;rotate_left
     ·show Act.put _ (some 126) _=_;exact zzS
     refine zQ 31 127 (zM 60 4294967295) ?_
     refine zQ 32 128 (zM 60 8589934591) ?_
     refine zQ 33 129 (zM 60 17179869183) ?_
     refine zQ 34 130 (zM 60 34359738367) ?_
     refine zQ 35 131 (zM 60 68719476735) ?_
     refine zQ 36 132 (zM 60 137438953471) ?_
     refine zQ 37 133 (zM 60 274877906943) ?_
     refine zQ 38 134 (zM 60 549755813887) ?_
     refine zQ 39 135 (zM 60 1099511627775) ?_
     refine zQ 40 136 (zM 60 2199023255551) ?_
     refine zQ 42 138 (zM 60 6597069766655) ?_
     refine aE6 (i:=41) (N:=some 137) (v:=?_) (a':=?_) (zM 60 8796093022207) rfl rfl (aC7 HT_.out HW_.out (by kernel_rfl)) (λ_ _ _ h=>h) (Or.inl ⟨by rfl,?_⟩) hHeld ?_ ?_;rotate_left
     ·rintro w' ⟨s0,s1,s2,s3,s4⟩;exact zzT
     rotate_left
     ·exact zzS
     refine aHv (i:=43) (N:=some 139) (zM 60 17592186044415) rfl rfl (aE3 HT_.out (by kernel_rfl)) (by decide) (λK hK=>?_);refine aG5 Tryz.func15 (by kernel_rfl) rfl #[.slice A133_0 (aBt cM (jZ)).length c133_0,.slice A119_0 (aBt cM dC).length c119_0] (by rfl) rfl rfl (by(try simp only[List.map_toArray,List.map_cons,List.map_nil]);first|done|(simp only[mQ];rfl)|rfl|(simp only[List.length_drop,List.length_take];rfl)) ?_;(with_reducible refine(aCu.calls k2 _ _ (aBt cM (jZ)) _ _ (aBt cM dC) true _ ?side1 ?side2 ?side3 ?side4 A54.out).mono ?_);(case side1=>repeat(first|exact(by repeat(first|(with_reducible exact HR133_0.out)|(with_reducible refine Kd.aCy ?_ _)|(with_reducible refine Kd.aCx ?_ _)|(with_reducible refine Kd.aDf ?_)|exact HR133_0.out))|(with_reducible refine Kd.aCy ?_ _)|(with_reducible refine Kd.aCx ?_ _)|(with_reducible refine Kd.aDf ?_)));(case side2=>exact HC133_0.out);(case side3=>exact bEp);(case side4=>exact HC119_0.out);rintro e w' ⟨rfl,⟨nd,rfl⟩⟩;refine⟨_,rfl,?_⟩;obtain⟨bWi,bW4,ES⟩:=Kd.aGa cW.out;(first|subst ES|(injection ES with f1_ f2_ f3_;have f4_:=f1_.symm;have f5_:=f3_.symm;clear f1_ f2_ f3_;subst f4_;subst f5_));refine hK.out _ _ ⟨(aAc bI.out 0).trans rfl,(aAc bI.out 1).trans rfl,hHeld.2.2.1,hHeld.2.2.2.1,hHeld.2.2.2.2⟩ (λhHeld=>?_);clear hK K;refine aEd (a':=?_) ?_ ?_;rotate_left
     ·show Act.put _ (some 139) _=_;exact zzS
     refine zQ 44 140 (zM 60 35184372088831) ?_
     refine zQ 45 141 (zM 60 70368744177663) ?_
     refine zQ 46 142 (zM 60 140737488355327) ?_
     refine zQ 47 143 (zM 60 281474976710655) ?_
     refine zQ 48 144 (zM 60 562949953421311) ?_
     refine zQ 49 145 (zM 60 1125899906842623) ?_
     refine zQ 51 147 (zM 60 3377699720527871) ?_
     refine zQ 52 148 (zM 60 7881299347898367) ?_
     refine zQ 53 149 (zM 60 16888498602639359) ?_
     refine aE6 (i:=50) (N:=some 146) (v:=?_) (a':=?_) (zM 60 18014398509481983) rfl rfl (aC7 HT_.out HW_.out (by kernel_rfl)) (λ_ _ _ h=>h) (Or.inl ⟨by rfl,?_⟩) hHeld ?_ ?_;rotate_left
     ·rintro w' ⟨s0,s1,s2,s3,s4⟩;exact zzT
     rotate_left
     ·exact zzS
     refine aE6 (i:=54) (N:=some 150) (v:=?_) (a':=?_) (zM 60 36028797018963967) rfl rfl (aC7 HT_.out HW_.out (by kernel_rfl)) (λ_ _ _ h=>h) (Or.inl ⟨by rfl,?_⟩) hHeld ?_ ?_;rotate_left
     ·rintro w' ⟨s0,s1,s2,s3,s4⟩;exact zzT
     rotate_left
     ·exact zzS
     refine aHv (i:=55) (N:=some 151) (zM 60 72057594037927935) rfl rfl (aE3 HT_.out (by kernel_rfl)) (by decide) (λK hK=>?_);refine aG5 Tryz.func15 (by kernel_rfl) rfl #[.slice A135_0 (aBt f9 (jZ)).length c135_0,.slice A136_0 (aBt f9 dC).length c136_0] (by rfl) rfl rfl (by(try simp only[List.map_toArray,List.map_cons,List.map_nil]);first|done|(simp only[mQ];rfl)|rfl|(simp only[List.length_drop,List.length_take];rfl)) ?_;(with_reducible refine(aCu.calls k2 _ _ (aBt f9 (jZ)) _ _ (aBt f9 dC) true _ ?side1 ?side2 ?side3 ?side4 A58.out).mono ?_);(case side1=>repeat(first|exact(by repeat(first|(with_reducible exact HR135_0.out)|(with_reducible refine Kd.aCy ?_ _)|(with_reducible refine Kd.aCx ?_ _)|(with_reducible refine Kd.aDf ?_)|exact HR135_0.out))|(with_reducible refine Kd.aCy ?_ _)|(with_reducible refine Kd.aCx ?_ _)|(with_reducible refine Kd.aDf ?_)));(case side2=>exact HC135_0.out);(case side3=>repeat(first|exact(by repeat(first|(with_reducible exact HR136_0.out)|(with_reducible refine Kd.aCy ?_ _)|(with_reducible refine Kd.aCx ?_ _)|(with_reducible refine Kd.aDf ?_)|exact HR136_0.out))|(with_reducible refine Kd.aCy ?_ _)|(with_reducible refine Kd.aCx ?_ _)|(with_reducible refine Kd.aDf ?_)));(case side4=>exact HC136_0.out);rintro e w' ⟨rfl,⟨nd,rfl⟩⟩;refine⟨_,rfl,?_⟩;refine hK.out _ _ ⟨(aAc bI.out 0).trans rfl,(aAc bI.out 1).trans rfl,hHeld.2.2.1,hHeld.2.2.2.1,hHeld.2.2.2.2⟩ (λhHeld=>?_);clear hK K;refine aEd (a':=?_) ?_ ?_;rotate_left
     ·show Act.put _ (some 151) _=_;exact zzS
     refine zQ 56 152 (zM 60 144115188075855871) ?_
     refine zQ 57 153 (zM 60 288230376151711743) ?_
     refine zQ 58 154 (zM 60 576460752303423487) ?_
     refine zQ 59 155 (zM 60 1152921504606846975) ?_
     refine aH4 (aF8 HT_.out (by kernel_rfl)) ?_;(try go_wp2);go_roundg k2;(case measure=>have:=HJ8.out;have:=HK2.out;omega);case rel=>exact⟨(wrap64 (dC+1)),zz6,H',⟨by have:=HJ8.out;have:=HK2.out;omega⟩,⟨by(with_reducible repeat(first|apply Kd.aE0|apply Kd.aDz|apply Kd.aE9));exact Kd.aE4 gQ.out (λ_ hk=>hk.1.1)⟩,⟨by(with_reducible repeat(first|apply Kd.aE0|apply Kd.aDz|apply Kd.aE9));exact Kd.aE4 cW.out (λ_ hk=>⟨hk.1.1.1,hk.1.1.2⟩)⟩,⟨by(with_reducible repeat(first|apply Kd.aE0|apply Kd.aDz|apply Kd.aE9));exact Kd.aE4 eD.out (λ_ hk=>hk.1.1)⟩,⟨by(with_reducible repeat(first|apply Kd.aB6|apply Kd.aB5|apply Kd.aBd));exact bL.out⟩,⟨aNw⟩,⟨aKc⟩⟩
def aAz.Pure:Prop:=∀ (l0:List Int),l0.length<=maxLen->l0.length*1<=140737488351232->(∀ x∈l0,(Lit.int .u8 x).wf=true)->∃ k,aAz.f k l0=some true
theorem aAz.walk (P:aAz.Pure) (a0:Option Addr) (len0 cap0:Nat) (z0:List Int) (w:World) (w0:(a0=none/\len0=0/\cap0=0/\z0=[])∨∃ x,a0=some x/\len0<=cap0/\cap0<=maxLen/\z0.length=cap0/\(∀ i,i<z0.length->w.cell? (x.add i)=some (.int .u8 (z0.getD i 0)))/\∀ n∈z0,(Lit.int .u8 n).wf=true) (y0:len0*1<=140737488351232) :
  Calls Tryz.prog 3 #[.slice a0 len0 cap0] w λe w'=>e = .returned (.bool true)/\Below w.heap.size w w':=by
 obtain⟨l0,rfl,hr0,hm0,hw0,hc0⟩:=aFz.bJe w0;obtain⟨k,h⟩:=P l0 hm0 y0 hw0;refine(aAz.calls k _ _ l0 true w (Kd.aGj (d:=(0:Int)) (h1:=λ_=>rfl) hr0) hc0 h).mono ?_;rintro e w' ⟨rfl,hd⟩;exact⟨rfl,hd⟩
end P
namespace Cf
open P
theorem aHf {α:Type} {l:List α} {P:α->Prop} {i:Nat} (h:i<l.length):(∀ e∈l.drop i,P e)↔(P l[i]/\∀ e∈l.drop (i+1),P e):=by
 rw[List.drop_eq_getElem_cons h]
 simp only[List.mem_cons,forall_eq_or_imp]
theorem aJa (n:Int) (es:List E):aCq.f n es=some (gOk n es):=rfl
theorem aPg {n:Int} {es:List E} (h:gOk n es=true):GOk n es:=aE8.1 h
theorem aRs (a b:Int) (l:List Int) (hl:l.length<=1048576):∀ (d i:Nat),i+d=l.length->Ep (λk=>aBm.l0 k a b l (l.length:Int) (i:Int)) (·=decide (∀ x∈l.drop i,a<=x/\x<=b)):=by
 intro d
 induction d with
 | zero =>
  intro i hi
  refine Ep.up ?_
  simp only[aBm.l0]
  refine Ep.neg (by omega) (Ep.now ?_)
  rw[List.drop_of_length_le (by omega)]
  simp
 | succ d ih =>
  intro i hi
  have hlt:i<l.length:=by omega
  refine Ep.up ?_
  simp only[aBm.l0]
  refine Ep.pos (by omega) (Ep.pos (by omega) (Ep.pos (by omega) ?_))
  rw[aEc hlt,wrap_succ (by omega)]
  refine Ep.aEr (aKh _ _ _) ?_
  refine Ep.ite (λh=>?_) (λh=>Ep.now ?_)
  ·have h':a<=l[i]/\l[i]<=b:=by simpa using h
   refine(ih (i+1) (by omega)).mono ?_
   rintro _ rfl
   simp only[aHf hlt,h',true_and]
  ·have h':¬ (a<=l[i]/\l[i]<=b):=by simpa using h
   simp only[aHf hlt,h',false_and,decide_false]
theorem aM6 (l:List Int) (a b:Int) (hl:l.length<=1048576):Ep (λk=>aBm.f k l a b) (·=decide (∀ x∈l,a<=x/\x<=b)):=by
 have:=aRs a b l hl l.length 0 (by omega)
 simp only[aBm.f]
 rw[List.drop_zero]at this
 exact this
theorem aH2 (n:Int) (es:List E) (v:Int) (hn:Wf .i64 n):aCj.f n es v=some (gOk n es&&decide (0<=v/\v<n)):=by
 unfold aCj.f
 rw[aJa]
 simp only[Option.bind_some]
 by_cases h:gOk n es=true
 ·have h1:=(aPg h).1.1
  have h6:=(aPg h).1.2.1
  rw[if_pos h,aCk (by omega) (by omega),aKh,h]
  simp only[Option.bind_some,Bool.true_and]
  have:(0<=v/\v<=n-1)↔(0<=v/\v<n):=by omega
  simp only[this]
 ·rw[if_neg h]
  have:gOk n es=false:=by simpa using h
  rw[this]
  rfl
def At (es:List E) (k v:Int):Prop:=∃ j:Nat,k=j/\∃ h:j<es.length,es[j].f0=v∨es[j].f1=v
theorem At.of {es:List E} {j:Nat} {v:Int} (hj:j<es.length):At es (j:Int) v↔(es[j].f0=v∨es[j].f1=v):=by
 constructor
 ·rintro⟨i,hi,h,hx⟩
  have:i=j:=by omega
  subst this
  exact hx
 ·intro h
  exact⟨j,rfl,hj,h⟩
end Cf
namespace Cf
def aG4:Nat->(Nat->Int)->Int
 | 0,_=>0
 | n+1,f=>aG4 n f+f n
def aHz (es:List E) (f:E->Int):Int:=(es.map f).sum
theorem aU7 (f:E->Int):aHz [] f=0:=rfl
theorem aDb (e:E) (r:List E) (f:E->Int):aHz (e::r) f=f e+aHz r f:=by simp[aHz]
theorem aDg {n:Nat} {f g:Nat->Int} (h:∀ i,i<n->f i=g i):aG4 n f=aG4 n g:=by
 induction n with
 | zero=>rfl
 | succ n ih=>simp only[aG4];rw[ih (λi hi=>h i (by omega)),h n (by omega)]
theorem aSf {n:Nat} {f g:Nat->Int} (h:∀ i,i<n->f i<=g i):aG4 n f<=aG4 n g:=by
 induction n with
 | zero=>exact Int.le_refl _
 | succ n ih =>
  simp only[aG4]
  have:=ih (λi hi=>h i (by omega))
  have:=h n (by omega)
  omega
theorem aFc (n:Nat) (f g:Nat->Int):aG4 n (λi=>f i+g i)=aG4 n f+aG4 n g:=by
 induction n with
 | zero=>rfl
 | succ n ih=>simp only[aG4];rw[ih];omega
theorem aFo (n:Nat):aG4 n (λ_=>0)=0:=by
 induction n with
 | zero=>rfl
 | succ n ih=>simp only[aG4];rw[ih];rfl
theorem aJi (n:Nat) (c:Int):aG4 n (λ_=>c)=n*c:=by
 induction n with
 | zero=>simp[aG4]
 | succ n ih=>simp only[aG4];rw[ih];rw[Int.natCast_succ,Int.add_mul];omega
theorem aI7 {n:Nat} (k:Nat) (hk:k<n) (c:Int):aG4 n (λi=>if i=k then c else 0)=c:=by
 induction n with
 | zero=>omega
 | succ n ih =>
  simp only[aG4]
  by_cases h:n=k
  ·subst h
   rw[if_pos rfl,aDg (g:=λ_=>0) (λi hi=>by rw[if_neg (by omega)]),aFo]
   omega
  ·rw[ih (by omega),if_neg h]
   omega
theorem aGw {es:List E} {f g:E->Int} (h:∀ e∈es,f e=g e):aHz es f=aHz es g:=by
 unfold aHz
 rw[List.map_congr_left h]
theorem aUa (es:List E) (f g:E->Int):aHz es (λe=>f e+g e)=aHz es f+aHz es g:=by
 induction es with
 | nil=>rfl
 | cons e r ih=>rw[aDb,aDb,aDb,ih];omega
theorem aSg {es:List E} {f g:E->Int} (h:∀ e∈es,f e<=g e):aHz es f<=aHz es g:=by
 induction es with
 | nil=>exact Int.le_refl _
 | cons e r ih =>
  rw[aDb,aDb]
  have:=ih (λx hx=>h x (List.mem_cons_of_mem _ hx))
  have:=h e List.mem_cons_self
  omega
theorem aIz {es:List E} {f:E->Int} (h:∀ e∈es,f e=0):aHz es f=0:=by
 induction es with
 | nil=>rfl
 | cons e r ih=>rw[aDb,ih (λx hx=>h x (List.mem_cons_of_mem _ hx)),h e List.mem_cons_self];rfl
theorem aGz {es:List E} {f:E->Int} (h:∀ e∈es,0<=f e):0<=aHz es f:=by
 have:=aSg (es:=es) (f:=λ_=>0) (g:=f) h
 rw[aIz (λ_ _=>rfl)]at this
 exact this
theorem aN1 {es:List E} {f:E->Int} (h:∀ e∈es,0<=f e) {e:E} (he:e∈es):f e<=aHz es f:=by
 induction es with
 | nil=>cases he
 | cons a r ih =>
  rw[aDb]
  have h0:=aGz (λx hx=>h x (List.mem_cons_of_mem a hx))
  rcases List.mem_cons.1 he with rfl|he
  ·omega
  ·have:=ih (λx hx=>h x (List.mem_cons_of_mem _ hx)) he
   have:=h a List.mem_cons_self
   omega
theorem aU8 (es:List E) (f:E->Int):aHz es (λe=>- f e)=- aHz es f:=by
 induction es with
 | nil=>rfl
 | cons e r ih=>rw[aDb,aDb,ih];omega
theorem aU9 (es:List E) (c:Int) (f:E->Int):aHz es (λe=>c*f e)=c*aHz es f:=by
 induction es with
 | nil=>simp[aHz]
 | cons e r ih=>rw[aDb,aDb,ih,Int.mul_add]
def aK5 (s:Int->Int) (w:Int) (e:E):Int:=(if e.f0=w then s e.f0-s e.f1 else 0)+(if e.f1=w then s e.f1-s e.f0 else 0)
def lap (es:List E) (s:Int->Int) (w:Int):Int:=aHz es (aK5 s w)
def ind (P:Int->Bool) (v:Int):Int:=if P v then 1 else 0
def one (v:Int) (t:Int) (w:Int):Int:=if w=v then t else 0
theorem aYy (s:Int->Int) (w:Int):lap [] s w=0:=rfl
theorem aIf (e:E) (r:List E) (s:Int->Int) (w:Int):lap (e::r) s w=aK5 s w e+lap r s w:=aDb _ _ _
theorem aHo (es:List E) (s t:Int->Int) (w:Int):lap es (λv=>s v+t v) w=lap es s w+lap es t w:=by
 unfold lap
 rw[<-aUa]
 apply aGw
 intro e _
 simp only[aK5]
 split<;>split<;>omega
theorem aYz (es:List E) (s:Int->Int) (w:Int):lap es (λv=>- s v) w=- lap es s w:=by
 unfold lap
 rw[<-aU8]
 apply aGw
 intro e _
 simp only[aK5]
 split<;>split<;>omega
theorem aYx (es:List E) (s t:Int->Int) (w:Int):lap es (λv=>s v-t v) w=lap es s w-lap es t w:=by
 have:=aHo es s (λv=>- t v) w
 rw[aYz]at this
 rw[show (λv=>s v-t v)=(λv=>s v + - t v) from funext λv=>by omega,this]
 omega
theorem aKw {n:Int} {es:List E} (hes:∀ e∈es,EOk n e) {s t:Int->Int} (h:∀ v,0<=v->v<n->s v=t v) (w:Int):lap es s w=lap es t w:=by
 apply aGw
 intro e he
 have hk:=hes e he
 unfold EOk at hk
 unfold aK5
 rw[h e.f0 (by omega) (by omega),h e.f1 (by omega) (by omega)]
theorem aI4 {es:List E} {s:Int->Int} {c:Int} (h:∀ e∈es,s e.f0=c/\s e.f1=c) (w:Int):lap es s w=0:=by
 apply aIz
 intro e he
 unfold aK5
 rw[(h e he).1,(h e he).2]
 split<;>split<;>omega
theorem aZn {n:Nat} {es:List E} (hes:∀ e∈es,EOk n e) (f s:Int->Int):aG4 n (λi=>f i*lap es s i)=aHz es (λe=>(f e.f0-f e.f1)*(s e.f0-s e.f1)):=by
 induction es with
 | nil=>simp only[aYy,Int.mul_zero];rw[aFo];rfl
 | cons e r ih =>
  have hk:=hes e List.mem_cons_self
  unfold EOk at hk
  rw[aDb,<-ih (λx hx=>hes x (List.mem_cons_of_mem _ hx))]
  have h1:aG4 n (λi=>f i*lap (e::r) s i)=aG4 n (λi=>f i*aK5 s i e)+aG4 n (λi=>f i*lap r s i):=by
   rw[<-aFc]
   apply aDg
   intro i _
   rw[aIf,Int.mul_add]
  rw[h1]
  congr 1
  have h2:aG4 n (λi=>f i*aK5 s i e)=aG4 n (λi=>if i=e.f0.toNat then f e.f0*(s e.f0-s e.f1) else 0)+aG4 n (λi=>if i=e.f1.toNat then f e.f1*(s e.f1-s e.f0) else 0):=by
   rw[<-aFc]
   apply aDg
   intro i _
   unfold aK5
   have c0:(e.f0=(i:Int))↔(i=e.f0.toNat):=by omega
   have c1:(e.f1=(i:Int))↔(i=e.f1.toNat):=by omega
   rw[Int.mul_add]
   congr 1
   ·by_cases h:e.f0=(i:Int)
    ·rw[if_pos h,if_pos (c0.1 h),h]
    ·rw[if_neg h,if_neg (λx=>h (c0.2 x)),Int.mul_zero]
   ·by_cases h:e.f1=(i:Int)
    ·rw[if_pos h,if_pos (c1.1 h),h]
    ·rw[if_neg h,if_neg (λx=>h (c1.2 x)),Int.mul_zero]
  rw[h2,aI7 _ (by omega),aI7 _ (by omega)]
  rw[show s e.f1-s e.f0=-(s e.f0-s e.f1) by omega,Int.mul_neg,Int.sub_mul]
  omega
def Red (n:Nat) (es:List E) (q:Int) (d:Int->Int):Prop :=
 (∀ v:Int,0<=v->v<n->v≠q->0<=d v)/\∀ S:Int->Bool,S q=false->(∃ v:Int,0<=v/\v<n/\S v=true)->∃ v:Int,0<=v/\v<n/\S v=true/\d v<lap es (ind S) v
theorem bLf {n:Nat} {es:List E} (hes:∀ e∈es,EOk n e) {s:Int->Int} {t C:Int} (hC:aG4 n (λi=>ind (λv=>decide (t<=s v)) i*lap es s i)<=C) {a b:Int} (hab:Adj es a b) (ha:t<=s a) (hb:s b<t):s a-s b<=C:=by
 rw[aZn hes]at hC
 obtain⟨e,he,hx⟩:=hab
 have hnn:∀ e∈es,0<=(ind (λv=>decide (t<=s v)) e.f0-ind (λv=>decide (t<=s v)) e.f1)*(s e.f0-s e.f1):=by
  intro e _
  unfold ind
  by_cases h0:t<=s e.f0<;>by_cases h1:t<=s e.f1<;>simp[h0,h1]<;>omega
 have h1:=aN1 hnn he
 have h2:s a-s b<=(ind (λv=>decide (t<=s v)) e.f0-ind (λv=>decide (t<=s v)) e.f1)*(s e.f0-s e.f1):=by
  unfold ind
  rcases hx with ⟨x0,x1⟩|⟨x0,x1⟩
  ·subst x0;subst x1
   have h1:¬ t<=s e.f1:=by omega
   simp[ha,h1]
  ·subst x0;subst x1
   have h1:¬ t<=s e.f0:=by omega
   simp[ha,h1]
   omega
 omega
theorem aOj {es:List E} {S:Int->Prop} {a b:Int} (hab:aH6 es a b) (ha:¬ S a) (hb:S b):∃ u w,Adj es u w/\S u/\¬ S w:=by
 induction hab with
 | refl=>exact absurd hb ha
 | @tail x y _ aL9 ih =>
  by_cases hx:S x
  ·exact ih hx
  ·exact⟨y,x,aL9.symm,hb,hx⟩
def below (n:Nat) (s:Int->Int) (t:Int):Nat:=(List.range n).countP (λi=>decide (s (i:Nat)<t))
theorem aY6 {n:Nat} {es:List E} (hes:∀ e∈es,EOk n e) (hj:Joined n es) {q:Int} (hq:0<=q/\q<n) {s:Int->Int} {C:Int} (hC0:0<=C) (hsq:s q<=0)
  (hC:∀ t:Int,0<t->aG4 n (λi=>ind (λv=>decide (t<=s v)) i*lap es s i)<=C):∀ v:Int,0<=v->v<n->s v<=n*C:=by
 have key:∀ k:Nat,∀ v:Int,0<=v->v<n->below n s (s v)<=k->s v<=k*C:=by
  intro k
  induction k with
  | zero =>
   intro v h0 h1 hk
   apply Classical.byContradiction
   intro hc
   have hpos:0<below n s (s v):=by
    unfold below
    rw[List.countP_pos_iff]
    refine⟨q.toNat,List.mem_range.2 (by omega),?_⟩
    have:((q.toNat:Nat):Int)=q:=by omega
    rw[this]
    simp
    omega
   omega
  | succ k ih =>
   intro v h0 h1 hk
   by_cases hpos:s v<=0
   ·have:0<=((k+1:Nat):Int)*C:=Int.mul_nonneg (by omega) hC0
    omega
   ·have hqv:aH6 es q v:=((hj q hq.1 hq.2).symm).trans (hj v h0 h1)
    obtain⟨u,w,aL9,hu,hw⟩:=aOj (S:=λx=>s v<=s x) hqv (by omega) (Int.le_refl _)
    have hcut:=bLf hes (hC (s v) (by omega)) aL9 hu (by omega)
    have hw0:=aHx.adj hes aL9
    have hlt:below n s (s w)<below n s (s v):=by
     refine aL0 (λx _ hx=>?_) ⟨w.toNat,List.mem_range.2 (by omega),?_,?_⟩
     ·simp only[decide_eq_true_eq]at hx ⊢
      omega
     ·have:((w.toNat:Nat):Int)=w:=by omega
      rw[this];simp
     ·have:((w.toNat:Nat):Int)=w:=by omega
      rw[this];simp;omega
    have:=ih w hw0.1 hw0.2 (by omega)
    rw[Int.natCast_succ,Int.add_mul,Int.one_mul]
    omega
 intro v h0 h1
 refine key n v h0 h1 ?_
 have:=List.countP_le_length (p:=λi=>decide (s ((i:Nat):Int)<s v)) (l:=List.range n)
 rw[List.length_range]at this
 exact this
theorem aY7 {n:Nat} {es:List E} (hes:∀ e∈es,EOk n e) (hj:Joined n es) {q:Int} (hq:0<=q/\q<n) {s:Int->Int} {c:Int} (hc:0<=c) (hsq:s q<=0)
  (h:∀ v:Int,0<=v->v<n->0<s v->lap es s v<=c):∀ v:Int,0<=v->v<n->s v<=n*(n*c):=by
 refine aY6 hes hj hq (Int.mul_nonneg (by omega) hc) hsq ?_
 intro t ht
 rw[<-aJi]
 apply aSf
 intro i hi
 unfold ind
 by_cases hx:t<=s i
 ·simp only[hx,decide_true,if_true,Int.one_mul]
  exact h i (by omega) (by omega) (by omega)
 ·simp only[hx,decide_false,Int.zero_mul,Bool.false_eq_true,if_false]
  exact hc
def aJp (v:Int) (e:E):Int:=if e.f0=v∨e.f1=v then 1 else 0
def val (es:List E) (v:Int):Int:=aHz es (aJp v)
def aG0 (a b:Int) (e:E):Int:=if(e.f0=a/\e.f1=b)∨(e.f0=b/\e.f1=a) then 1 else 0
def mult (es:List E) (a b:Int):Int:=aHz es (aG0 a b)
theorem aHy (es:List E) (v:Int):0<=val es v:=aGz λe _=>by unfold aJp;split<;>omega
theorem aFe (es:List E) (a b:Int):0<=mult es a b:=aGz λe _=>by unfold aG0;split<;>omega
theorem aOz {es:List E} {f:E->Int} (h:∀ e∈es,f e<=1):aHz es f<=es.length:=by
 induction es with
 | nil=>simp[aHz]
 | cons e r ih =>
  rw[aDb]
  have:=ih (λx hx=>h x (List.mem_cons_of_mem _ hx))
  have:=h e List.mem_cons_self
  simp only[List.length_cons]
  omega
theorem aPy (es:List E) (v:Int):val es v<=es.length:=aOz λe _=>by unfold aJp;split<;>omega
theorem aJ7 (es:List E) (a b:Int):mult es a b<=es.length:=aOz λe _=>by unfold aG0;split<;>omega
theorem aJ8 {n:Int} {es:List E} (hes:∀ e∈es,EOk n e) (v t:Int):lap es (one v t) v=t*val es v:=by
 unfold lap val
 rw[<-aU9]
 apply aGw
 intro e he
 have hk:=hes e he
 unfold EOk at hk
 unfold aK5 aJp one
 by_cases a:e.f0=v
 ·have b:¬ e.f1=v:=by omega
  simp[a,b]
 ·by_cases b:e.f1=v
  ·simp[a,b]
  ·simp[a,b]
theorem aLh {n:Int} {es:List E} (hes:∀ e∈es,EOk n e) {v w:Int} (hvw:w≠v) (t:Int):lap es (one v t) w=- (t*mult es v w):=by
 unfold lap mult
 rw[<-aU9,<-aU8]
 apply aGw
 intro e he
 have hk:=hes e he
 unfold EOk at hk
 unfold aK5 aG0 one
 by_cases a:e.f0=w
 ·have b:¬ e.f1=w:=by omega
  have c:¬ e.f0=v:=by omega
  by_cases x:e.f1=v
  ·simp[a,x];omega
  ·simp[a,b,x,hvw]
 ·by_cases b:e.f1=w
  ·have c:¬ e.f1=v:=by omega
   by_cases x:e.f0=v
   ·simp[a,b,x];omega
   ·simp[a,b,x,hvw]
  ·simp[a,b]
theorem aXp {n:Nat} {es:List E} (hj:Joined n es) {q v:Int} (hq:0<=q/\q<n) (hv:0<=v/\v<n) (hne:v≠q):0<val es v:=by
 have hc:aH6 es q v:=((hj q hq.1 hq.2).symm).trans (hj v hv.1 hv.2)
 obtain⟨u,w,⟨e,he,hx⟩,hu,hw⟩:=aOj (S:=λx=>x=v) hc (λh=>hne h.symm) rfl
 subst hu
 have h1:=aN1 (f:=aJp u) (λe _=>by unfold aJp;split<;>omega) he
 have h2:aJp u e=1:=by
  unfold aJp
  rw[if_pos]
  rcases hx with ⟨a,_⟩|⟨_,b⟩
  ·exact .inl a
  ·exact .inr b
 unfold val
 omega
inductive aFy (n:Nat) (es:List E) (q:Int) (p:Int->Int):(Int->Int)->Prop
 | zero:aFy n es q p (λ_=>0)
 | step {s:Int->Int} {v:Int}:aFy n es q p s->0<=v->v<n->v≠q->val es v<=p v-lap es s v->aFy n es q p (λw=>s w+one v 1 w)
def Stable (n:Nat) (es:List E) (q:Int) (d:Int->Int):Prop:=∀ v:Int,0<=v->v<n->v≠q->d v<val es v
theorem aSy {es:List E} {r:Int->Int} {v:Int} (h:∀ w,0<=r w) (hv:r v=0):lap es r v<=0:=by
 have:=aSg (es:=es) (f:=aK5 r v) (g:=λ_=>0) (λe _=>by
  unfold aK5
  have h0:=h e.f0
  have h1:=h e.f1
  by_cases a:e.f0=v
  ·by_cases b:e.f1=v
   ·simp[a,b]
   ·rw[if_pos a,if_neg b,a,hv];omega
  ·by_cases b:e.f1=v
   ·rw[if_neg a,if_pos b,b,hv];omega
   ·rw[if_neg a,if_neg b];omega)
 rw[aIz (λ_ _=>rfl)]at this
 exact this
theorem aFy.aKs {n:Nat} {es:List E} {q:Int} {p s:Int->Int} (h:aFy n es q p s):(∀ w,0<=s w)/\s q=0:=by
 induction h with
 | zero=>exact⟨λ_=>Int.le_refl _,rfl⟩
 | @step s v _ _ _ hq _ ih =>
  refine⟨λw=>?_,?_⟩
  ·have:=ih.1 w
   show 0<=s w+one v 1 w
   unfold one
   split<;>omega
  ·have:=ih.2
   show s q+one v 1 q=0
   unfold one
   rw[if_neg (λx:q=v=>hq x.symm)]
   omega
theorem aFy.least {n:Nat} {es:List E} {q:Int} {p s t:Int->Int} (h:aFy n es q p s) (ht:∀ w,0<=t w) (hst:Stable n es q (λv=>p v-lap es t v)):∀ w,s w<=t w:=by
 induction h with
 | zero=>exact ht
 | @step s v _ h0 h1 hq hv ih =>
  intro w
  show s w+one v 1 w<=t w
  unfold one
  by_cases e:w=v
  ·subst e
   rw[if_pos rfl]
   have:=ih w
   by_cases hlt:s w<t w
   ·omega
   ·exfalso
    have hle:=aSy (es:=es) (r:=λx=>t x-s x) (v:=w) (λx=>by have:=ih x;omega) (by omega)
    rw[aYx]at hle
    have:=hst w h0 h1 hq
    simp only at this
    omega
  ·rw[if_neg e]
   have:=ih w
   omega
theorem aFy.unique {n:Nat} {es:List E} {q:Int} {p s t:Int->Int} (hs:aFy n es q p s) (ht:aFy n es q p t) (ss:Stable n es q (λv=>p v-lap es s v)) (st:Stable n es q (λv=>p v-lap es t v)):s=t:=by
 funext w
 have:=hs.least ht.aKs.1 st w
 have:=ht.least hs.aKs.1 ss w
 omega
theorem aFy.many {n:Nat} {es:List E} (hes:∀ e∈es,EOk n e) {q:Int} {p s:Int->Int} (h:aFy n es q p s) {v:Int} (h0:0<=v) (h1:v<n) (hq:v≠q):∀ k:Nat,k*val es v<=p v-lap es s v->aFy n es q p (λw=>s w+one v k w)
 | 0,_=>by
  have:(λw=>s w+one v ((0:Nat):Int) w)=s:=by
   funext w
   unfold one
   split<;>simp
  rw[this]
  exact h
 | k+1,hk=>by
  have hv:=aHy es v
  rw[Int.natCast_succ,Int.add_mul]at hk
  have ih:=aFy.many hes h h0 h1 hq k (by omega)
  have:=aFy.step ih h0 h1 hq (by
   rw[aHo,aJ8 hes]
   omega)
  have e:(λw=>s w+one v ((k+1:Nat):Int) w)=λw=>s w+one v (k:Int) w+one v 1 w:=by
   funext w
   unfold one
   split<;>omega
  rw[e]
  exact this
end Cf
namespace Cf
open P
def dOk (n:Int) (es:List E) (d:List Int):Bool:=gOk n es&&(decide ((d.length:Int)=n)&&decide (∀ x∈d,-60<=x/\x<=60))
theorem aLm {n:Int} {es:List E} {d:List Int}:dOk n es d=true↔GOk n es/\(d.length:Int)=n/\∀ x∈d,-60<=x/\x<=60:=by
 unfold dOk
 simp only[Bool.and_eq_true,decide_eq_true_eq,aE8]
theorem aZ7 (n:Int) (es:List E) (d:List Int) (hl:d.length<=1048576):Ep (λk=>aCb.f k n es d) (·=dOk n es d):=by
 simp only[aCb.f,dOk]
 refine Ep.aEr (aJa n es) (Ep.ite (λhg=>?_) (λhg=>Ep.now ?_))
 ·refine Ep.ite (λh=>?_) (λh=>Ep.now ?_)
  ·refine Ep.bind (aM6 d (-60) 60 hl) ?_
   rintro _ rfl
   refine Ep.now ?_
   rw[hg]
   simp only[h,decide_true,Bool.true_and]
  ·simp[h]
 ·have:gOk n es=false:=by simpa using hg
  simp[this]
theorem aWk (o:List Int) (hl:o.length<=1048576):∀ (d i:Nat),i+d=o.length->Ep (λk=>aBg.l0 k o (o.length:Int) (i:Int)) (·=decide (∀ x∈o.drop i,0<=x)):=by
 intro d
 induction d with
 | zero =>
  intro i hi
  refine Ep.up ?_
  simp only[aBg.l0]
  refine Ep.neg (by omega) (Ep.now ?_)
  rw[List.drop_of_length_le (by omega)]
  simp
 | succ d ih =>
  intro i hi
  have hlt:i<o.length:=by omega
  refine Ep.up ?_
  simp only[aBg.l0]
  refine Ep.pos (by omega) (Ep.pos (by omega) (Ep.pos (by omega) ?_))
  rw[aEc hlt,wrap_succ (by omega)]
  refine Ep.ite (λh=>Ep.now ?_) (λh=>?_)
  ·have h':¬ 0<=o[i]:=by omega
   simp only[aHf hlt,h',false_and,decide_false]
  ·have h':0<=o[i]:=by omega
   refine(ih (i+1) (by omega)).mono ?_
   rintro _ rfl
   simp only[aHf hlt,h',true_and]
theorem bG3 (d:List Int) (hl:d.length<=1048576):Ep (λk=>aBg.f k d) (·=decide (∀ x∈d,0<=x)):=by
 have:=aWk d hl d.length 0 (by omega)
 simp only[aBg.f]
 rw[List.drop_zero]at this
 exact this
def pOk (n:Int) (es:List E) (p:List Int) (q:Int):Bool:=dOk n es p&&(decide (0<=q/\q<n)&&(decide (∀ x∈p,0<=x)&&decide (rd p q=0)))
theorem aP7 {n:Int} {es:List E} {p:List Int} {q:Int}:pOk n es p q=true↔(GOk n es/\(p.length:Int)=n/\∀ x∈p,-60<=x/\x<=60)/\(0<=q/\q<n)/\(∀ x∈p,0<=x)/\rd p q=0:=by
 unfold pOk
 simp only[Bool.and_eq_true,decide_eq_true_eq,aLm]
theorem bCi (n:Int) (es:List E) (p:List Int) (q:Int) (hl:p.length<=1048576):Ep (λk=>aE7.f k n es p q) (·=pOk n es p q):=by
 simp only[aE7.f,pOk]
 refine Ep.bind (aZ7 n es p hl) ?_
 rintro _ rfl
 refine Ep.ite (λhd=>?_) (λhd=>Ep.now ?_)
 ·obtain⟨⟨⟨h1,h6,_,_⟩,_,_⟩,hpl,_⟩:=aLm.1 hd
  rw[aCk (x:=n-1) (by omega) (by omega)]
  refine Ep.aEr (aKh _ _ _) ?_
  have hq:(0<=q/\q<=n-1)↔(0<=q/\q<n):=by omega
  simp only[hq]
  refine Ep.ite (λh=>?_) (λh=>Ep.now ?_)
  ·refine Ep.bind (bG3 p hl) ?_
   rintro _ rfl
   have h':0<=q/\q<n:=by simpa using h
   refine Ep.ite (λhe=>Ep.pos h'.1 (Ep.pos (by omega) (Ep.now ?_))) (λhe=>Ep.now ?_)
   ·rw[hd,h,he]
    rfl
   ·have he':decide (∀ x∈p,0<=x)=false:=by simpa using he
    rw[he']
    simp
  ·have h':decide (0<=q/\q<n)=false:=by simpa using h
   rw[h']
   simp
 ·have hd':dOk n es p=false:=by simpa using hd
  rw[hd']
  rfl
def aOw (n:Int) (es:List E) (v:Int):Int:=if 0<=v/\v<n then val es v else 0
theorem aU0 {es:List E} {i:Nat} (h:i<es.length) (v:Int):val (es.drop i) v=aJp v es[i]+val (es.drop (i+1)) v:=by
 rw[List.drop_eq_getElem_cons h]
 exact aDb _ _ _
theorem aQ6 (v:Int) (es:List E) (hl:es.length<=1048576):∀ (d i:Nat) (a:Int),i+d=es.length->0<=a->a<=i->Ep (λk=>aC3.l0 k v a es (es.length:Int) (i:Int)) (·=a+val (es.drop i) v):=by
 intro d
 induction d with
 | zero =>
  intro i a hi h0 ha
  refine Ep.up ?_
  simp only[aC3.l0]
  refine Ep.neg (by omega) (Ep.now ?_)
  rw[List.drop_of_length_le (by omega)]
  simp[val,aHz]
 | succ d ih =>
  intro i a hi h0 ha
  have hlt:i<es.length:=by omega
  refine Ep.up ?_
  simp only[aC3.l0]
  refine Ep.pos (by omega) (Ep.pos (by omega) (Ep.pos (by omega) ?_))
  rw[aFu hlt,wrap_succ (by omega),aCk (x:=a+1) (by omega) (by omega),aU0 hlt]
  refine Ep.ite (λh=>?_) (λh=>Ep.ite (λh2=>?_) (λh2=>?_))
  ·refine(ih (i+1) (a+1) (by omega) (by omega) (by omega)).mono ?_
   rintro _ rfl
   unfold aJp
   rw[if_pos (.inl h)]
   omega
  ·refine(ih (i+1) (a+1) (by omega) (by omega) (by omega)).mono ?_
   rintro _ rfl
   unfold aJp
   rw[if_pos (.inr h2)]
   omega
  ·refine(ih (i+1) a (by omega) h0 (by omega)).mono ?_
   rintro _ rfl
   unfold aJp
   rw[if_neg (by rintro (x|x);exact h x;exact h2 x)]
   omega
theorem aSh (n:Int) (es:List E) (v:Int) (hl:es.length<=1048576):Ep (λk=>aC3.f k n es v) (·=aOw n es v):=by
 have hv:aD7.f n es v=some (decide (0<=v/\v<n)):=by
  unfold aD7.f
  by_cases h:v≥0
  ·rw[if_pos h]
   have:(0<=v/\v<n)↔v<n:=⟨λx=>x.2,λx=>⟨h,x⟩⟩
   simp only[this]
  ·rw[if_neg h]
   have:¬ (0<=v/\v<n):=λx=>h x.1
   simp only[this,decide_false]
 simp only[aC3.f,aOw]
 refine Ep.aEr hv (Ep.ite (λh=>?_) (λh=>Ep.now ?_))
 ·refine(aQ6 v es hl es.length 0 0 (by omega) (by omega) (by omega)).mono ?_
  rintro _ rfl
  rw[if_pos (by simpa using h),List.drop_zero]
  omega
 ·rw[if_neg (by simpa using h)]
theorem aR5 (v:Int) (es:List E) (hl:es.length<=1048576):∀ (d i:Nat) (a:Int),i+d=es.length->0<=a->a<=i->Ep (λk=>aAq.l0 k v a es (es.length:Int) (i:Int)) (·=a+val (es.drop i) v):=by
 intro d
 induction d with
 | zero =>
  intro i a hi h0 ha
  refine Ep.up ?_
  simp only[aAq.l0]
  refine Ep.neg (by omega) (Ep.now ?_)
  rw[List.drop_of_length_le (by omega)]
  simp[val,aHz]
 | succ d ih =>
  intro i a hi h0 ha
  have hlt:i<es.length:=by omega
  refine Ep.up ?_
  simp only[aAq.l0]
  refine Ep.pos (by omega) (Ep.pos (by omega) (Ep.pos (by omega) ?_))
  rw[aFu hlt,wrap_succ (by omega),aCk (x:=a+1) (by omega) (by omega),aU0 hlt]
  refine Ep.ite (λh=>?_) (λh=>Ep.ite (λh2=>?_) (λh2=>?_))
  ·refine(ih (i+1) (a+1) (by omega) (by omega) (by omega)).mono ?_
   rintro _ rfl
   unfold aJp
   rw[if_pos (.inl h)]
   omega
  ·refine(ih (i+1) (a+1) (by omega) (by omega) (by omega)).mono ?_
   rintro _ rfl
   unfold aJp
   rw[if_pos (.inr h2)]
   omega
  ·refine(ih (i+1) a (by omega) h0 (by omega)).mono ?_
   rintro _ rfl
   unfold aJp
   rw[if_neg (by rintro (x|x);exact h x;exact h2 x)]
   omega
theorem aGh (n:Int) (es:List E) (v:Int) (hl:es.length<=1048576):Ep (λk=>aAq.f k n es v) (·=aOw n es v):=by
 simp only[aAq.f,aOw]
 refine Ep.ite (λh=>?_) (λh=>?_)
 ·refine Ep.up ?_
  simp only[aAq.j0]
  refine Ep.pos trivial (Ep.now ?_)
  rw[if_neg (by omega)]
 ·refine Ep.up ?_
  simp only[aAq.j0]
  refine Ep.ite (λh2=>Ep.now ?_) (λh2=>?_)
  ·have:v≥n:=by simpa using h2
   rw[if_neg (by omega)]
  ·have:¬ v≥n:=by simpa using h2
   refine(aR5 v es hl es.length 0 0 (by omega) (by omega) (by omega)).mono ?_
   rintro _ rfl
   rw[if_pos (by omega),List.drop_zero]
   omega
def aMg (n:Int) (es:List E) (q:Int) (p:List Int):Nat->Nat->Int
 | 0,_=>-1
 | d+1,i=>if(i:Int)=q then aMg n es q p d (i+1) else if rd p i≥aOw n es i then i else aMg n es q p d (i+1)
theorem aT1 (n:Int) (es:List E) (q:Int) (p:List Int) (hel:es.length<=1048576) (hl:p.length<=1048576):∀ (d i:Nat),i+d=p.length->Ep (λk=>aBj.l0 k q p (p.length:Int) (i:Int) n es) (·=aMg n es q p d i):=by
 intro d
 induction d with
 | zero =>
  intro i hi
  refine Ep.up ?_
  simp only[aBj.l0]
  exact Ep.neg (by omega) (Ep.now rfl)
 | succ d ih =>
  intro i hi
  refine Ep.up ?_
  simp only[aBj.l0]
  refine Ep.pos (by omega) (Ep.pos (by omega) (Ep.pos (by omega) ?_))
  rw[wrap_succ (by omega)]
  unfold aMg
  refine Ep.ite (λh=>?_) (λh=>?_)
  ·rw[if_pos h]
   exact ih (i+1) (by omega)
  ·rw[if_neg h]
   refine Ep.bind (aGh n es i hel) ?_
   rintro _ rfl
   refine Ep.ite (λh2=>Ep.now ?_) (λh2=>?_)
   ·rw[if_pos h2]
   ·rw[if_neg h2]
    exact ih (i+1) (by omega)
theorem aPd (n:Int) (es:List E) (p:List Int) (q:Int) (hel:es.length<=1048576) (hl:p.length<=1048576):Ep (λk=>aBj.f k n es p q) (·=aMg n es q p p.length 0):=by
 have:=aT1 n es q p hel hl p.length 0 (by omega)
 simp only[aBj.f]
 exact this
def sOk (n:Int) (es:List E) (p:List Int) (q:Int):Bool:=pOk n es p q&&decide (aMg n es q p p.length 0<0)
theorem aWe (n:Int) (es:List E) (p:List Int) (q:Int) (hel:es.length<=1048576) (hl:p.length<=1048576):Ep (λk=>aDm.f k n es p q) (·=sOk n es p q):=by
 simp only[aDm.f,sOk]
 refine Ep.bind (bCi n es p q hl) ?_
 rintro _ rfl
 refine Ep.ite (λh=>?_) (λh=>Ep.now ?_)
 ·refine Ep.bind (aPd n es p q hel hl) ?_
  rintro _ rfl
  refine Ep.now ?_
  rw[h]
  rfl
 ·have:pOk n es p q=false:=by simpa using h
  rw[this]
  rfl
end Cf
namespace Cf
def aEl (es:List E) (b:List Int) (v:Int):Int:=(b.map (mult es v)).sum
inductive aPx (n:Nat) (es:List E) (d:Int->Int) (q:Int):List Int->Prop
 | start:aPx n es d q [q]
 | step {b:List Int} {v:Int}:aPx n es d q b->0<=v->v<n->v∉b->d v<aEl es b v->aPx n es d q (b++[v])
theorem aPx.ok {n:Nat} {es:List E} {d:Int->Int} {q:Int} {b:List Int} (hq:0<=q/\q<n) (h:aPx n es d q b):b.Nodup/\(∀ v∈b,0<=v/\v<n)/\q∈b:=by
 induction h with
 | start=>exact⟨by simp,λv hv=>by rw[List.mem_singleton.1 hv];exact hq,by simp⟩
 | @step b v _ h0 h1 hv _ ih =>
  refine⟨?_,λx hx=>?_,List.mem_append_left _ ih.2.2⟩
  ·rw[List.nodup_append]
   exact⟨ih.1,by simp,λa ha c hc=>by
    rw[List.mem_singleton.1 hc]
    rintro rfl
    exact hv ha⟩
  ·rcases List.mem_append.1 hx with hx|hx
   ·exact ih.2.1 x hx
   ·rw[List.mem_singleton.1 hx]
    exact⟨h0,h1⟩
theorem aPx.len {n:Nat} {es:List E} {d:Int->Int} {q:Int} {b:List Int} (hq:0<=q/\q<n) (h:aPx n es d q b):b.length<=n:=aFx n b (h.ok hq).1 (h.ok hq).2.1
theorem aN0 (x:Int):∀ (b:List Int),b.Nodup->(b.map (λw=>if x=w then (1:Int) else 0)).sum=if x∈b then 1 else 0
 | [],_=>by simp
 | a::r,h=>by
  have ih:=aN0 x r (List.nodup_cons.1 h).2
  have hn:=(List.nodup_cons.1 h).1
  simp only[List.map_cons,List.sum_cons,ih,List.mem_cons]
  by_cases e:x=a
  ·subst e
   simp[hn]
  ·simp[e]
theorem aU3 (b:List Int):(b.map (λ_=>(0:Int))).sum=0:=by
 induction b with
 | nil=>rfl
 | cons a r ih=>simp only[List.map_cons,List.sum_cons,ih];rfl
theorem sum_add (b:List Int) (f g:Int->Int):(b.map (λw=>f w+g w)).sum=(b.map f).sum+(b.map g).sum:=by
 induction b with
 | nil=>rfl
 | cons a r ih=>simp only[List.map_cons,List.sum_cons,ih];omega
theorem aK7 {n:Int} {es:List E} (hes:∀ e∈es,EOk n e) {b:List Int} (hb:b.Nodup) {v:Int} (hv:v∉b):aEl es b v=lap es (ind (λx=>decide (x∉b))) v:=by
 induction es with
 | nil =>
  unfold aEl
  rw[aYy]
  exact aU3 b
 | cons e r ih =>
  have ih:=ih (λx hx=>hes x (List.mem_cons_of_mem _ hx))
  have hk:=hes e List.mem_cons_self
  unfold EOk at hk
  have h1:aEl (e::r) b v=(b.map (λw=>aG0 v w e)).sum+aEl r b v:=by
   unfold aEl
   rw[<-sum_add]
   congr 1
  rw[h1,ih,aIf]
  congr 1
  unfold aK5 ind aG0
  by_cases a:e.f0=v
  ·have c:¬ e.f1=v:=by omega
   have key:(b.map (λw=>if(e.f0=v/\e.f1=w)∨(e.f0=w/\e.f1=v) then (1:Int) else 0)).sum=if e.f1∈b then 1 else 0:=by
    rw[<-aN0 e.f1 b hb]
    congr 1
    apply List.map_congr_left
    intro w _
    simp[a,c]
   rw[key,if_pos a,if_neg c,a]
   by_cases m:e.f1∈b<;>simp[m,hv]
  ·by_cases c:e.f1=v
   ·have key:(b.map (λw=>if(e.f0=v/\e.f1=w)∨(e.f0=w/\e.f1=v) then (1:Int) else 0)).sum=if e.f0∈b then 1 else 0:=by
     rw[<-aN0 e.f0 b hb]
     congr 1
     apply List.map_congr_left
     intro w _
     simp[a,c]
    rw[key,if_neg a,if_pos c,c]
    by_cases m:e.f0∈b<;>simp[m,hv]
   ·have key:(b.map (λw=>if(e.f0=v/\e.f1=w)∨(e.f0=w/\e.f1=v) then (1:Int) else 0)).sum=0:=by
     exact(congrArg List.sum (List.map_congr_left (g:=λ_=>(0:Int)) (λw _=>by simp[a,c]))).trans (aU3 b)
    rw[key,if_neg a,if_neg c]
    rfl
theorem aR0 {es:List E} {S T:Int->Bool} {v:Int} (hv:S v=true) (hw:T v=true) (h:∀ x,S x=true->T x=true):lap es (ind T) v<=lap es (ind S) v:=by
 apply aSg
 intro e _
 have h0:=h e.f0
 have h1:=h e.f1
 unfold aK5 ind
 by_cases a:e.f0=v
 ·by_cases b:e.f1=v
  ·simp[a,b]
  ·rw[if_pos a,if_pos a,if_neg b,if_neg b,a,hv,hw]
   cases hs:S e.f1<;>cases ht:T e.f1<;>simp_all
 ·by_cases b:e.f1=v
  ·rw[if_neg a,if_neg a,if_pos b,if_pos b,b,hv,hw]
   cases hs:S e.f0<;>cases ht:T e.f0<;>simp_all
  ·rw[if_neg a,if_neg a,if_neg b,if_neg b]
   exact Int.le_refl _
theorem aPx.meets {n:Nat} {es:List E} (hes:∀ e∈es,EOk n e) {d:Int->Int} {q:Int} (hq:0<=q/\q<n) {b:List Int} (h:aPx n es d q b) {S:Int->Bool} (hS:S q=false):(∀ v∈b,S v=false)∨∃ v:Int,0<=v/\v<n/\S v=true/\d v<lap es (ind S) v:=by
 induction h with
 | start=>exact .inl (λv hv=>by rw[List.mem_singleton.1 hv];exact hS)
 | @step b v hb h0 h1 hv hlt ih =>
  rcases ih with ih|ih
  ·by_cases hx:S v=true
   ·right
    refine⟨v,h0,h1,hx,?_⟩
    rw[aK7 hes (hb.ok hq).1 hv]at hlt
    have:=aR0 (es:=es) (S:=S) (T:=λx=>decide (x∉b)) hx (by simpa using hv) (λx hx=>by
     simp only[decide_eq_true_eq]
     intro hm
     rw[ih x hm]at hx
     cases hx)
    omega
   ·left
    intro x hm
    rcases List.mem_append.1 hm with hm|hm
    ·exact ih x hm
    ·rw[List.mem_singleton.1 hm]
     simpa using hx
  ·exact .inr ih
theorem aPx.red {n:Nat} {es:List E} (hes:∀ e∈es,EOk n e) {d:Int->Int} {q:Int} (hq:0<=q/\q<n) {b:List Int} (h:aPx n es d q b) (hl:b.length=n) (hd:∀ v:Int,0<=v->v<n->v≠q->0<=d v):Red n es q d:=by
 refine⟨hd,λS hS hx=>?_⟩
 rcases h.meets hes hq hS with hb|hb
 ·exfalso
  obtain⟨v,h0,h1,hv⟩:=hx
  have:v∈b:=by
   apply Classical.byContradiction
   intro hn
   have:=aFx n (v::b) (List.nodup_cons.2 ⟨hn,(h.ok hq).1⟩) (λx hx=>by
    rcases List.mem_cons.1 hx with rfl|hx
    ·exact⟨h0,h1⟩
    ·exact(h.ok hq).2.1 x hx)
   simp at this
   omega
  rw[hb v this]at hv
  cases hv
 ·exact hb
theorem Red.bPg {n:Nat} {es:List E} (hes:∀ e∈es,EOk n e) {d:Int->Int} {q:Int} (hq:0<=q/\q<n) {b:List Int} (h:aPx n es d q b) (hr:Red n es q d) (hl:b.length<n):∃ v:Int,0<=v/\v<n/\v∉b/\d v<aEl es b v:=by
 have hok:=h.ok hq
 have hex:∃ v:Int,0<=v/\v<n/\v∉b:=by
  apply Classical.byContradiction
  intro hc
  have:=aNe n b (λi hi=>by
   apply Classical.byContradiction
   intro hm
   exact hc ⟨i,by omega,by omega,hm⟩)
  omega
 obtain⟨v,h0,h1,hv,hlt⟩:=hr.2 (λx=>decide (x∉b)) (by simpa using hok.2.2) (by obtain⟨v,h0,h1,hv⟩:=hex;exact⟨v,h0,h1,by simpa using hv⟩)
 have hv':v∉b:=by simpa using hv
 exact⟨v,h0,h1,hv',by rw[aK7 hes hok.1 hv'];exact hlt⟩
theorem bF5 {es:List E} {f:E->Int} {S:Int} (h:∀ e∈es,-S<=f e/\f e<=S):-(es.length*S)<=aHz es f/\aHz es f<=es.length*S:=by
 induction es with
 | nil=>simp[aHz]
 | cons e r ih =>
  rw[aDb]
  have:=ih (λx hx=>h x (List.mem_cons_of_mem _ hx))
  have:=h e List.mem_cons_self
  rw[List.length_cons,Int.natCast_succ,Int.add_mul,Int.one_mul]
  omega
theorem bJv {n:Int} {es:List E} (hes:∀ e∈es,EOk n e) (hel:es.length<=12) {s:Int->Int} {L S:Int} (hS:0<=S) (h:∀ v,0<=v->v<n->L<=s v/\s v<=L+S) (w:Int):-(12*S)<=lap es s w/\lap es s w<=12*S:=by
 have h1:=bF5 (es:=es) (f:=aK5 s w) (S:=S) (λe he=>by
  have hk:=hes e he
  unfold EOk at hk
  have h0:=h e.f0 (by omega) (by omega)
  have h1:=h e.f1 (by omega) (by omega)
  unfold aK5
  by_cases a:e.f0=w
  ·rw[if_pos a,if_neg (by omega)];omega
  ·rw[if_neg a]
   by_cases b:e.f1=w
   ·rw[if_pos b];omega
   ·rw[if_neg b];omega)
 have h2:(es.length:Int)*S<=12*S:=Int.mul_le_mul_of_nonneg_right (by omega) hS
 unfold lap
 omega
theorem aI8 {n:Nat} {f:Nat->Int} {c:Int} (h:∀ i,i<n->f i<=c):aG4 n f<=n*c:=by
 rw[<-aJi]
 exact aSf h
theorem aSe {n:Nat} {f:Nat->Int} (h:∀ i,i<n->0<=f i):0<=aG4 n f:=by
 have:=aSf (n:=n) (f:=λ_=>0) (g:=f) h
 rw[aFo]at this
 exact this
theorem bFq (v t:Int) (i:Nat):one v t (i:Int)=if(i:Int)=v then t else 0:=rfl
theorem aXz {n:Nat} {v:Int} (h0:0<=v) (h1:v<n) (t:Int):aG4 n (λi=>one v t (i:Int))=t:=by
 have:=aI7 (n:=n) v.toNat (by omega) t
 refine(aDg λi _=>?_).trans this
 rw[bFq]
 have:((i:Int)=v)↔i=v.toNat:=by omega
 simp only[this]
theorem aFy.bJx {n:Nat} {es:List E} (hes:∀ e∈es,EOk n e) {q:Int} {p s:Int->Int} (h:aFy n es q p s):∀ v:Int,0<=v->v<n->0<s v->0<=p v-lap es s v:=by
 induction h with
 | zero=>intro v _ _ h;exact absurd h (by simp)
 | @step s u hl h0 h1 hq hv ih =>
  intro w k0 k1 hs
  rw[aHo]
  by_cases e:w=u
  ·subst e
   rw[aJ8 hes]
   omega
  ·rw[aLh hes e]
   have:=aFe es u w
   have:=ih w k0 k1 (by
    have hs':0<s w+one u 1 w:=hs
    unfold one at hs'
    rw[if_neg e]at hs'
    omega)
   omega
theorem aFy.bLs {n:Nat} {es:List E} (hes:∀ e∈es,EOk n e) (hj:Joined n es) {q:Int} (hq:0<=q/\q<n) {p s:Int->Int} (h:aFy n es q p s) {c:Int} (hc:0<=c) (hpc:∀ v:Int,0<=v->v<n->v≠q->p v<=c):∀ v:Int,0<=v->v<n->s v<=n*(n*c):=by
 refine aY7 hes hj hq hc (by rw[h.aKs.2];exact Int.le_refl _) ?_
 intro v h0 h1 hs
 have hne:v≠q:=by rintro rfl;rw[h.aKs.2]at hs;omega
 have:=h.bJx hes v h0 h1 hs
 have:=hpc v h0 h1 hne
 omega
theorem bOh {n:Nat} (hn:n<=6) {c:Int} (hc:0<=c):(n:Int)*(n*c)<=36*c:=by
 have h1:(n:Int)*c<=6*c:=Int.mul_le_mul_of_nonneg_right (by omega) hc
 have h2:(n:Int)*(n*c)<=n*(6*c):=Int.mul_le_mul_of_nonneg_left h1 (by omega)
 have h3:(n:Int)*(6*c)<=6*(6*c):=Int.mul_le_mul_of_nonneg_right (by omega) (by omega)
 omega
theorem aFy.small {n:Nat} (hn:n<=6) {es:List E} (hes:∀ e∈es,EOk n e) (hj:Joined n es) {q:Int} (hq:0<=q/\q<n) {p s:Int->Int} (h:aFy n es q p s) {c:Int} (hc:0<=c) (hpc:∀ v:Int,0<=v->v<n->v≠q->p v<=c) :
  (∀ v:Int,0<=v->v<n->0<=s v/\s v<=36*c)/\aG4 n (λi=>s (i:Int))<=216*c:=by
 have h36:=bOh hn hc
 have hb:∀ v:Int,0<=v->v<n->0<=s v/\s v<=36*c:=λv h0 h1=>by
  have:=h.bLs hes hj hq hc hpc v h0 h1
  have:=h.aKs.1 v
  omega
 refine⟨hb,?_⟩
 have h1:=aI8 (n:=n) (f:=λi=>s (i:Int)) (c:=36*c) (λi hi=>(hb i (by omega) (by omega)).2)
 have h2:(n:Int)*(36*c)<=6*(36*c):=Int.mul_le_mul_of_nonneg_right (by omega) (by omega)
 omega
theorem bBn {n:Nat} {s:Int->Int} {v:Int} (h0:0<=v) (h1:v<n) (t:Int):aG4 n (λi=>(λw=>s w+one v t w) (i:Int))=aG4 n (λi=>s (i:Int))+t:=by
 rw[aFc n (λi=>s (i:Int)) (λi=>one v t (i:Int)),aXz h0 h1]
def bU4 (es:List E) (d:Int->Int) (v:Int):Int:=val es v-1-d v
structure Sets (n:Nat) (es:List E) (q:Int) (d u:Int->Int):Prop where
 pos:∀ w,0<=u w
 bA0:u q=0
 keeps:∀ v:Int,0<=v->v<n->v≠q->0<=d v-lap es u v
theorem Sets.zero {n:Nat} {es:List E} {q:Int} {d:Int->Int} (h:∀ v:Int,0<=v->v<n->v≠q->0<=d v):Sets n es q d (λ_=>0) where
 pos:=λ_=>Int.le_refl _
 bA0:=rfl
 keeps:=λv h0 h1 h2=>by
  rw[aI4 (c:=0) (λ_ _=>⟨rfl,rfl⟩)]
  have:=h v h0 h1 h2
  omega
def aI2 (es:List E) (d:Int->Int) (b:List Int):Nat->Nat->Int
 | 0,_=>-1
 | k+1,i=>if(i:Int)∉b/\d i<aEl es b i then i else aI2 es d b k (i+1)
theorem aMj (es:List E) (d:Int->Int) (b:List Int):∀ (k i:Nat),(aI2 es d b k i=-1/\∀ j:Nat,i<=j->j<i+k->(j:Int)∉b->aEl es b j<=d j)∨((i:Int)<=aI2 es d b k i/\aI2 es d b k i<i+k/\aI2 es d b k i∉b/\d (aI2 es d b k i)<aEl es b (aI2 es d b k i))
 | 0,i=>.inl ⟨rfl,λj h0 h1=>by omega⟩
 | k+1,i=>by
  unfold aI2
  by_cases h:(i:Int)∉b/\d i<aEl es b i
  ·rw[if_pos h]
   exact .inr ⟨by omega,by omega,h.1,h.2⟩
  ·rw[if_neg h]
   rcases aMj es d b k (i+1) with ⟨h1,h2⟩|⟨h1,h2,h3⟩
   ·refine .inl ⟨h1,λj h3 h4 h5=>?_⟩
    by_cases e:j=i
    ·subst e
     apply Classical.byContradiction
     intro hc
     exact h ⟨h5,by omega⟩
    ·exact h2 j (by omega) (by omega) h5
   ·exact .inr ⟨by omega,by omega,h3⟩
def aRo (n:Nat) (es:List E) (d:Int->Int):Nat->List Int->List Int
 | 0,b=>b
 | k+1,b=>if aI2 es d b n 0<0 then b else aRo n es d k (b++[aI2 es d b n 0])
def aK8 (n:Nat) (es:List E) (d:Int->Int) (q:Int):List Int:=aRo n es d n [q]
def aTv (n:Nat) (es:List E) (d:Int->Int) (b:List Int):Prop:=∀ v:Int,0<=v->v<n->v∉b->aEl es b v<=d v
theorem aQt {n:Nat} {es:List E} {d:Int->Int} {b:List Int} (h:aI2 es d b n 0<0):aTv n es d b:=by
 rcases aMj es d b n 0 with ⟨_,h2⟩|⟨h1,_⟩
 ·intro v h0 h1 hm
  have e:((v.toNat:Nat):Int)=v:=by omega
  have:=h2 v.toNat (by omega) (by omega) (by rw[e];exact hm)
  rw[e]at this
  exact this
 ·omega
theorem aVc {n:Nat} {es:List E} {d:Int->Int} {q:Int} (hq:0<=q/\q<n):∀ (k:Nat) (b:List Int),n+1<=b.length+k->aPx n es d q b->aPx n es d q (aRo n es d k b)/\aTv n es d (aRo n es d k b)
 | 0,b,hl,h=>by have:=h.len hq;omega
 | k+1,b,hl,h=>by
  unfold aRo
  by_cases hc:aI2 es d b n 0<0
  ·rw[if_pos hc]
   exact⟨h,aQt hc⟩
  ·rw[if_neg hc]
   rcases aMj es d b n 0 with ⟨h1,_⟩|⟨h1,h2,h3,h4⟩
   ·omega
   ·exact aVc hq k _ (by simp;omega) (h.step (by omega) (by omega) h3 h4)
theorem aPo {n:Nat} {es:List E} {d:Int->Int} {q:Int} (hq:0<=q/\q<n):aPx n es d q (aK8 n es d q)/\aTv n es d (aK8 n es d q):=aVc hq n [q] (by simp;omega) .start
def bPm (n:Nat) (es:List E) (q:Int) (d x s:Int->Int):Prop:=Red n es q x/\s q=0/\∀ v:Int,0<=v->v<n->x v=d v-lap es s v
theorem Red.lt {n:Nat} {es:List E} (hes:∀ e∈es,EOk n e) {q:Int} {d:Int->Int} (h:Red n es q d) {v:Int} (h0:0<=v) (h1:v<n) (hv:v≠q):0<=d v/\d v<val es v:=by
 refine⟨h.1 v h0 h1 hv,?_⟩
 obtain⟨w,_,_,hw,hlt⟩:=h.2 (λx=>decide (x=v)) (by simpa using λe=>hv e.symm) ⟨v,h0,h1,by simp⟩
 obtain rfl:w=v:=by simpa using hw
 have e:ind (λx=>decide (x=w))=one w 1:=by
  funext x
  unfold ind one
  by_cases c:x=w<;>simp[c]
 rw[e,aJ8 hes]at hlt
 omega
theorem aNa {x:List Int} {i:Int} (h0:0<=i) (h1:i<x.length) (y:Int) {w:Int} (hw:0<=w):rd (x.set i.toNat y) w=if w=i then y else rd x w:=by
 obtain⟨a,rfl⟩:=Int.eq_ofNat_of_zero_le h0
 obtain⟨b,rfl⟩:=Int.eq_ofNat_of_zero_le hw
 simp only[Int.ofNat_eq_natCast,Int.toNat_natCast,aJv,zdG]at *
 by_cases c:b=a
 ·subst c
  rw[List.getElem?_set_self (by omega),if_pos rfl]
  rfl
 ·rw[List.getElem?_set_ne (λy=>c y.symm),if_neg (by omega)]
def Bd (x:List Int) (B:Int):Prop:=∀ w:Int,0<=w->w<x.length→-B<=rd x w/\rd x w<=B
theorem Bd.mono {x:List Int} {B B':Int} (h:Bd x B) (hB:B<=B'):Bd x B':=λw h0 h1=>by have:=h w h0 h1;omega
theorem Bd.bQp {p:List Int} (h:∀ x∈p,-60<=x/\x<=60):Bd p 60:=λw h0 h1=>by
 obtain⟨i,rfl⟩:=Int.eq_ofNat_of_zero_le h0
 have hi:i<p.length:=by omega
 rw[aEc hi]
 exact h _ (List.getElem_mem hi)
def Less (es:List E) (d:List Int) (s:Int->Int) (x:List Int):Prop:=x.length=d.length/\∀ w:Int,0<=w->w<d.length->rd x w=rd d w-lap es s w
theorem bCa (es:List E) (e:E) (s:Int->Int) (w:Int):lap (es++[e]) s w=lap es s w+aK5 s w e:=by
 induction es with
 | nil=>simp[lap,aHz]
 | cons a r ih=>rw[List.cons_append,aIf,ih,aIf];omega
theorem bC9 {es:List E} {i:Nat} (h:i<es.length) (s:Int->Int) (w:Int):lap (es.take (i+1)) s w=lap (es.take i) s w+aK5 s w es[i]:=by
 rw[List.take_succ_eq_append_getElem h,bCa]
def Rep (n:Nat) (c:List Int) (s:Int->Int):Prop:=c.length=n/\∀ w:Int,0<=w->w<n->rd c w=s w
theorem Rep.ext {n:Nat} {c c':List Int} {s:Int->Int} (h:Rep n c s) (h':Rep n c' s):c=c':=by
 apply List.ext_getElem (by rw[h.1,h'.1])
 intro i h1 h2
 have e:=h.2 i (by omega) (by have:=h.1;omega)
 have e':=h'.2 i (by omega) (by have:=h.1;omega)
 rw[aEc h1]at e
 rw[aEc h2]at e'
 rw[e,e']
theorem Rep.congr {n:Nat} {c:List Int} {s t:Int->Int} (h:Rep n c s) (he:∀ w:Int,0<=w->w<n->s w=t w):Rep n c t:=⟨h.1,λw h0 h1=>(h.2 w h0 h1).trans (he w h0 h1)⟩
theorem Rep.self {n:Nat} {c:List Int} (h:c.length=n):Rep n c (rd c):=⟨h,λ_ _ _=>rfl⟩
theorem Rep.set {n:Nat} {c:List Int} {s:Int->Int} (h:Rep n c s) {v:Int} (h0:0<=v) (h1:v<n) (y:Int):Rep n (c.set v.toNat y) (λw=>if w=v then y else s w):=by
 refine⟨by rw[List.length_set];exact h.1,λw w0 w1=>?_⟩
 rw[aNa h0 (by rw[h.1];exact h1) y w0,h.2 w w0 w1]
theorem aM1 (n:Nat) (v:Int):rd (List.replicate n (0:Int)) v=0:=by
 unfold rd
 rw[zdG]
 by_cases h:v.toNat<n
 ·rw[List.getElem?_replicate_of_lt h];rfl
 ·rw[List.getElem?_eq_none (by simp;omega)];rfl
theorem Rep.zero (n:Nat):Rep n (List.replicate n (0:Int)) (λ_=>0):=⟨by simp,λw _ _=>aM1 n w⟩
def aMa (n:Nat) (f:Int->Int):List Int:=(List.range n).map λi:Nat=>f (i:Int)
theorem aHb (n:Nat) (f:Int->Int):(aMa n f).length=n:=by simp[aMa]
theorem aEy (n:Nat) (f:Int->Int):Rep n (aMa n f) f:=by
 refine⟨by simp[aMa],λw h0 h1=>?_⟩
 obtain⟨a,rfl⟩:=Int.eq_ofNat_of_zero_le h0
 rw[aEc (by simp[aMa];omega)]
 simp[aMa]
theorem Rep.eq {n:Nat} {c:List Int} {s:Int->Int} (h:Rep n c s):c=aMa n s:=h.ext (aEy n s)
theorem Rep.bd {n:Nat} {c:List Int} {s:Int->Int} {B:Int} (h:Rep n c s) (hb:∀ w:Int,0<=w->w<n→-B<=s w/\s w<=B):Bd c B:=λw h0 h1=>by
 rw[h.2 w h0 (by have:=h.1;omega)]
 exact hb w h0 (by have:=h.1;omega)
theorem Less.rep {n:Nat} {es:List E} {d x:List Int} {s:Int->Int} (hd:d.length=n) (h:Less es d s x):Rep n x (λw=>rd d w-lap es s w):=⟨h.1.trans hd,λw h0 h1=>h.2 w h0 (by omega)⟩
def aIj (n:Nat) (es:List E) (q:Int) (p:List Int) (r:List Int×List Int):Prop :=
 ∃ s:Int->Int,aFy n es q (rd p) s/\Stable n es q (λv=>rd p v-lap es s v)/\Rep n r.1 (λw=>if w=q then 0 else rd p w-lap es s w)/\Rep n r.2 s
theorem aIj.unique {n:Nat} {es:List E} {q:Int} {p:List Int} {r r':List Int×List Int} (h:aIj n es q p r) (h':aIj n es q p r'):r=r':=by
 obtain⟨s,h1,h2,h3,h4⟩:=h
 obtain⟨t,k1,k2,k3,k4⟩:=h'
 obtain rfl:=h1.unique k1 h2 k2
 exact Prod.ext (h3.ext k3) (h4.ext k4)
open Classical in
noncomputable def aGe (n:Nat) (es:List E) (q:Int) (p:List Int):List Int×List Int:=if h:∃ r,aIj n es q p r then Classical.choose h else([],[])
theorem aIj.eq {n:Nat} {es:List E} {q:Int} {p:List Int} {r:List Int×List Int} (h:aIj n es q p r):r=aGe n es q p:=by
 have he:∃ r,aIj n es q p r:=⟨r,h⟩
 unfold aGe
 rw[dif_pos he]
 exact h.unique (Classical.choose_spec he)
theorem aSl {n:Nat} (es:List E) (q:Int) (p:List Int) (hn:n<=6):(aGe n es q p).1.length<=6/\(aGe n es q p).2.length<=6:=by
 unfold aGe
 split
 ·rename_i he
  obtain⟨s,_,_,h3,h4⟩:=Classical.choose_spec he
  rw[h3.1,h4.1]
  exact⟨hn,hn⟩
 ·simp
def aTq (n:Nat) (es:List E) (q:Int) (d:List Int) (r:List Int×List Int):Prop:=r.1.length=n/\r.2.length=n/\bPm n es q (rd d) (rd r.1) (rd r.2)
theorem aQ4:∀ (n:Nat) (c:List Int),c.length=n->c.sum=aG4 n (λi=>rd c (i:Int))
 | 0,c,h=>by
  obtain rfl:=List.length_eq_zero_iff.1 h
  rfl
 | n+1,c,h=>by
  obtain⟨a,x,rfl⟩:∃ a x,c=a++[x]:=⟨c.dropLast,c.getLast (by rintro rfl;simp at h),(List.dropLast_concat_getLast _).symm⟩
  simp only[List.length_append,List.length_cons,List.length_nil,Nat.zero_add,Nat.add_right_cancel_iff]at h
  simp only[aG4,List.sum_append,List.sum_cons,List.sum_nil]
  rw[aQ4 n a h]
  congr 1
  ·apply aDg
   intro i hi
   rw[aEc (show i<a.length by omega),aEc (show i<(a++[x]).length by simp;omega),List.getElem_append_left (by omega)]
  ·subst h
   rw[aEc (show a.length<(a++[x]).length by simp)]
   simp
theorem aOy (n:Int) (es:List E) (q:Int) (p:List Int):∀ (d i:Nat),(aMg n es q p d i=-1/\∀ j:Nat,i<=j->j<i+d->(j:Int)≠q->rd p (j:Int)<aOw n es j)∨((i:Int)<=aMg n es q p d i/\aMg n es q p d i<i+d/\aMg n es q p d i≠q/\aOw n es (aMg n es q p d i)<=rd p (aMg n es q p d i))
 | 0,i=>.inl ⟨rfl,λj h0 h1=>by omega⟩
 | d+1,i=>by
  unfold aMg
  have ih:=aOy n es q p d (i+1)
  by_cases h:(i:Int)=q
  ·rw[if_pos h]
   rcases ih with ⟨h1,h2⟩|⟨h1,h2,h3⟩
   ·refine .inl ⟨h1,λj h3 h4 h5=>?_⟩
    by_cases e:j=i
    ·subst e;exact absurd h h5
    ·exact h2 j (by omega) (by omega) h5
   ·exact .inr ⟨by omega,by omega,h3⟩
  ·rw[if_neg h]
   by_cases h2:rd p i≥aOw n es i
   ·rw[if_pos h2]
    exact .inr ⟨by omega,by omega,h,h2⟩
   ·rw[if_neg h2]
    rcases ih with ⟨h1,h3⟩|⟨h1,h3,h4⟩
    ·refine .inl ⟨h1,λj k1 k2 k3=>?_⟩
     by_cases e:j=i
     ·subst e;omega
     ·exact h3 j (by omega) (by omega) k3
    ·exact .inr ⟨by omega,by omega,h4⟩
theorem aHm {n:Int} {es:List E} {v:Int} (h:0<=v/\v<n):aOw n es v=val es v:=by
 unfold aOw
 rw[if_pos h]
theorem bBl {n:Nat} {es:List E} {q:Int} {p:List Int} (hp:p.length=n) (h:aMg n es q p p.length 0<0):Stable n es q (rd p):=by
 intro v h0 h1 hv
 rcases aOy n es q p p.length 0 with ⟨_,h2⟩|⟨h2,_⟩
 ·have:=h2 v.toNat (by omega) (by omega) (by omega)
  have e:((v.toNat:Nat):Int)=v:=by omega
  rw[e,aHm ⟨h0,h1⟩]at this
  exact this
 ·omega
theorem bBk {n:Nat} {es:List E} {q:Int} {p:List Int} (hp:p.length=n) (h:¬ aMg n es q p p.length 0<0):0<=aMg n es q p p.length 0/\aMg n es q p p.length 0<n/\aMg n es q p p.length 0≠q/\val es (aMg n es q p p.length 0)<=rd p (aMg n es q p p.length 0):=by
 rcases aOy n es q p p.length 0 with ⟨h1,_⟩|⟨h1,h2,h3,h4⟩
 ·omega
 ·refine⟨by omega,by omega,h3,?_⟩
  rw[aHm ⟨by omega,by omega⟩]at h4
  exact h4
def aIs (q:Int) (p:List Int):Nat->Nat->Int
 | 0,_=>-1
 | d+1,i=>if(i:Int)=q then aIs q p d (i+1) else if rd p i<0 then i else aIs q p d (i+1)
theorem aVa (q:Int) (p:List Int):∀ (d i:Nat),(aIs q p d i=-1/\∀ j:Nat,i<=j->j<i+d->(j:Int)≠q->0<=rd p (j:Int))∨((i:Int)<=aIs q p d i/\aIs q p d i<i+d/\aIs q p d i≠q/\rd p (aIs q p d i)<0)
 | 0,i=>.inl ⟨rfl,λj h0 h1=>by omega⟩
 | d+1,i=>by
  unfold aIs
  have ih:=aVa q p d (i+1)
  by_cases h:(i:Int)=q
  ·rw[if_pos h]
   rcases ih with ⟨h1,h2⟩|⟨h1,h2,h3⟩
   ·refine .inl ⟨h1,λj h3 h4 h5=>?_⟩
    by_cases e:j=i
    ·subst e;exact absurd h h5
    ·exact h2 j (by omega) (by omega) h5
   ·exact .inr ⟨by omega,by omega,h3⟩
  ·rw[if_neg h]
   by_cases h2:rd p i<0
   ·rw[if_pos h2]
    exact .inr ⟨by omega,by omega,h,h2⟩
   ·rw[if_neg h2]
    rcases ih with ⟨h1,h3⟩|⟨h1,h3,h4⟩
    ·refine .inl ⟨h1,λj k1 k2 k3=>?_⟩
     by_cases e:j=i
     ·subst e;omega
     ·exact h3 j (by omega) (by omega) k3
    ·exact .inr ⟨by omega,by omega,h4⟩
theorem bCx {n:Nat} {q:Int} {p:List Int} (hp:p.length=n) (h:¬ aIs q p p.length 0<0):0<=aIs q p p.length 0/\aIs q p p.length 0<n/\aIs q p p.length 0≠q/\rd p (aIs q p p.length 0)<0:=by
 rcases aVa q p p.length 0 with ⟨h1,_⟩|⟨h1,h2,h3⟩
 ·omega
 ·exact⟨by omega,by omega,h3⟩
theorem aU4 (f:Int->Int) (n:Nat):∀ (b:List Int),b.Nodup->(∀ v∈b,0<=v/\v<n)->aG4 n (λw=>if(w:Int)∈b then f w else 0)=(b.map f).sum
 | [],_,_=>by simp[aFo]
 | a::r,hb,hr=>by
  have ha:=hr a List.mem_cons_self
  rw[List.map_cons,List.sum_cons,<-aU4 f n r (List.nodup_cons.1 hb).2 (λv hv=>hr v (List.mem_cons_of_mem _ hv)),<-aI7 (n:=n) a.toNat (by omega) (f a),<-aFc]
  apply aDg
  intro i hi
  by_cases e:i=a.toNat
  ·have e':(i:Int)=a:=by omega
   rw[if_pos e,e',if_pos List.mem_cons_self,if_neg (List.nodup_cons.1 hb).1]
   omega
  ·have e':(i:Int)≠a:=by omega
   rw[if_neg e]
   simp[e']
end Cf
namespace Cf
open P
theorem aT7 (n:Nat) (es:List E) (hes:∀ e∈es,EOk n e) (hel:es.length<=12) (d:List Int) (v t:Int) (hd:d.length=n) (hv:0<=v/\v<n) {B K:Int} (hK:0<=K/\0<=B) (hbd:Bd d B) (ht:-K<=t/\t<=K) (hB:B+12*K<=4611686018427387904) :
  ∀ (k i:Nat) (x:List Int),i+k=es.length->Less (es.take i) d (one v t) x->Bd x (B+K*i)->Ep (λr=>aCg.l0 r x v t es (es.length:Int) (i:Int)) (λr=>Less es d (one v t) r/\Bd r (B+12*K)):=by
 intro k
 induction k with
 | zero =>
  intro i x hi hx hb
  obtain rfl:i=es.length:=by omega
  refine Ep.up ?_
  simp only[aCg.l0]
  refine Ep.neg (by omega) (Ep.now ⟨?_,hb.mono ?_⟩)
  ·rw[List.take_length]at hx
   exact hx
  ·have:K*(es.length:Int)<=K*12:=Int.mul_le_mul_of_nonneg_left (by omega) (by omega)
   omega
 | succ k ih =>
  intro i x hi hx hb
  have hlt:i<es.length:=by omega
  have he:=hes _ (List.getElem_mem hlt)
  unfold EOk at he
  have hxl:x.length=n:=hx.1.trans hd
  have bVx:K*(i:Int)<=K*12:=Int.mul_le_mul_of_nonneg_left (by omega) (by omega)
  have ba:=hb es[i].f0 (by omega) (by omega)
  have bb:=hb es[i].f1 (by omega) (by omega)
  have e1:K*((i+1:Nat):Int)=K*(i:Int)+K:=by
   rw[Int.natCast_add,Int.mul_add]
   omega
  have fin:∀ x':List Int,x'.length=x.length->(∀ w:Int,0<=w->w<n->rd x' w=rd x w-aK5 (one v t) w es[i])->Ep (λr=>aCg.l0 r x' v t es (es.length:Int) ((i+1:Nat):Int)) (λr=>Less es d (one v t) r/\Bd r (B+12*K)):=by
   intro x' hl' key
   refine ih (i+1) _ (by omega) ⟨by rw[hl'];exact hx.1,?_⟩ ?_
   ·intro w h0 h1
    rw[key w h0 (by omega),hx.2 w h0 h1,bC9 hlt]
    omega
   ·intro w h0 h1
    have h1':w<n:=by omega
    rw[key w h0 h1',e1]
    have:=hb w h0 (by omega)
    unfold aK5 one
    (repeat' split)<;>omega
  refine Ep.up ?_
  simp only[aCg.l0]
  refine Ep.pos (by omega) (Ep.pos (by omega) (Ep.pos (by omega) ?_))
  rw[aFu hlt,wrap_succ (by omega)]
  refine Ep.ite (λc=>?_) (λc=>Ep.ite (λc2=>?_) (λc2=>?_))
  ·subst c
   refine Ep.pos (by omega) (Ep.pos (by omega) (Ep.aEr rfl (Ep.pos (by omega) (Ep.pos (by omega) ?_))))
   rw[aNa (x:=x) (by omega) (by omega) _ (w:=es[i].f1) (by omega),if_neg (by omega),aCk (x:=rd x es[i].f0-t) (by omega) (by omega),aCk (x:=rd x es[i].f1+t) (by omega) (by omega)]
   refine fin _ (by simp) ?_
   intro w h0 h1
   rw[aNa (by omega) (by rw[List.length_set];omega) _ h0,aNa (by omega) (by omega) _ h0]
   unfold aK5 one
   by_cases c1:w=es[i].f1
   ·subst c1;(repeat' split)<;>omega
   ·by_cases c0:w=es[i].f0
    ·subst c0;(repeat' split)<;>omega
    ·(repeat' split)<;>omega
  ·subst c2
   refine Ep.pos (by omega) (Ep.pos (by omega) (Ep.aEr rfl (Ep.pos (by omega) (Ep.pos (by omega) ?_))))
   rw[aNa (x:=x) (by omega) (by omega) _ (w:=es[i].f0) (by omega),if_neg (by omega),aCk (x:=rd x es[i].f1-t) (by omega) (by omega),aCk (x:=rd x es[i].f0+t) (by omega) (by omega)]
   refine fin _ (by simp) ?_
   intro w h0 h1
   rw[aNa (by omega) (by rw[List.length_set];omega) _ h0,aNa (by omega) (by omega) _ h0]
   unfold aK5 one
   by_cases c1:w=es[i].f1
   ·subst c1;(repeat' split)<;>omega
   ·by_cases c0:w=es[i].f0
    ·subst c0;(repeat' split)<;>omega
    ·(repeat' split)<;>omega
  ·refine fin x rfl ?_
   intro w h0 h1
   unfold aK5 one
   (repeat' split)<;>omega
theorem aV4 (n:Nat) (es:List E) (hes:∀ e∈es,EOk n e) (hel:es.length<=12) (d:List Int) (v t:Int) (hd:d.length=n) (hv:0<=v/\v<n) {B K:Int} (hK:0<=K/\0<=B) (hbd:Bd d B) (ht:-K<=t/\t<=K) (hB:B+12*K<=4611686018427387904) :
  Ep (λr=>aCg.f r (n:Int) es d v t) (λr=>Less es d (one v t) r/\Bd r (B+12*K)):=by
 simp only[aCg.f]
 refine aT7 n es hes hel d v t hd hv hK hbd ht hB es.length 0 _ (by omega) ⟨rfl,λw _ _=>?_⟩ ?_
 ·simp[lap,aHz]
 ·simpa using hbd
theorem copy_eq (l:List Int) (h:l.length<=1048576):aCo.f l=some l:=by
 unfold aCo.f
 rw[if_pos (by simp;omega)]
 rfl
structure Gr (n:Nat) (es:List E) (q:Int):Prop where
 n1:1<=n
 n6:n<=6
 hes:∀ e∈es,EOk n e
 hel:es.length<=12
 hj:Joined n es
 hq:0<=q/\q<n
theorem Gr.of {n:Nat} {es:List E} {q:Int} (h:GOk (n:Int) es) (hq:0<=q/\q<n):Gr n es q:=by
 obtain⟨h1,_,h3⟩:=h
 unfold aHx at h1
 exact⟨by omega,by omega,h1.2.2.2,h1.2.2.1,h3,hq⟩
structure Pre (n:Nat) (q:Int) (p:List Int):Prop where
 len:p.length=n
 bd:∀ v:Int,0<=v->v<n->v≠q->0<=rd p v/\rd p v<=1000
 bA0:rd p q=0
theorem aFy.bds {n:Nat} {es:List E} {q:Int} (g:Gr n es q) {p:List Int} (hp:Pre n q p) {s:Int->Int} (h:aFy n es q (rd p) s) :
  (∀ v:Int,0<=v->v<n->0<=s v/\s v<=36000)/\aG4 n (λi=>s (i:Int))<=216000/\∀ w:Int,0<=w->w<n→-500000<=rd p w-lap es s w/\rd p w-lap es s w<=500000:=by
 have h1:=h.small g.n6 g.hes g.hj g.hq (c:=1000) (by omega) (λv h0 h1 h2=>(hp.bd v h0 h1 h2).2)
 refine⟨λv h0 h2=>by have:=h1.1 v h0 h2;omega,by omega,λw h0 h2=>?_⟩
 have h3:=bJv g.hes g.hel (s:=s) (L:=0) (S:=36000) (by omega) (λv h0 h2=>by have:=h1.1 v h0 h2;omega) w
 by_cases e:w=q
 ·subst e
  have:=hp.bA0
  omega
 ·have:=hp.bd w h0 h2 e
  omega
theorem aT2 {n:Nat} {es:List E} {q:Int} (g:Gr n es q) {p:List Int} (hp:Pre n q p):∀ (k:Nat) (s:Int->Int) (x c:List Int),216000<aG4 n (λi=>s (i:Int))+k->aFy n es q (rd p) s->Rep n x (λw=>rd p w-lap es s w)->Rep n c s ->
  Ep (λf=>aBa.l0 f q x c (aMg n es q x x.length 0) (n:Int) es) (aIj n es q p):=by
 have hn:=g.n6
 have hel:=g.hel
 have hq:=g.hq
 intro k
 induction k with
 | zero =>
  intro s x c hk hs _ _
  have:=hs.bds g hp
  omega
 | succ k ih =>
  intro s x c hk hs hx hc
  have hb:=hs.bds g hp
  have hxl:=hx.1
  have hcl:=hc.1
  refine Ep.up ?_
  simp only[aBa.l0]
  refine Ep.ite (λh=>?_) (λh=>?_)
  ·have hu:=bBk (es:=es) (q:=q) hxl (by omega)
   generalize aMg n es q x x.length 0=v at hu ⊢
   obtain⟨h0,h1,h2,h3⟩:=hu
   have hcv:=hb.1 v h0 h1
   have hxv:=hb.2.2 v h0 h1
   have hvp:=aXp g.hj hq ⟨h0,h1⟩ h2
   have hx0:rd x v=rd p v-lap es s v:=hx.2 v h0 h1
   have hdv:=Int.ediv_mul_le (rd x v) (b:=val es v) (by omega)
   have hd0:1<=rd x v/val es v:=(Int.le_ediv_iff_mul_le hvp).2 (by omega)
   have hdm:rd x v/val es v<=rd x v:=Int.ediv_le_self _ (by omega)
   have htd:Int.tdiv (rd x v) (val es v)=rd x v/val es v:=Int.tdiv_eq_ediv_of_nonneg (by omega)
   have hbx:Bd x 1000000:=hx.bd λw w0 w1=>by
    have:=hb.2.2 w w0 w1
    omega
   refine Ep.pos (by omega) (Ep.pos (by omega) ?_)
   refine Ep.bind (aGh n es v (by omega)) ?_
   rintro _ rfl
   rw[aHm ⟨h0,h1⟩]
   refine Ep.neg (by omega) ?_
   rw[htd,aCk (x:=rd x v/val es v) (by omega) (by omega)]
   generalize rd x v/val es v=m at hdv hd0 hdm ⊢
   obtain⟨m,rfl⟩:=Int.eq_ofNat_of_zero_le (a:=m) (by omega)
   refine Ep.bind (aV4 n es g.hes g.hel x v m hxl ⟨h0,h1⟩ (B:=1000000) (K:=1000000) ⟨by omega,by omega⟩ hbx (by omega) (by omega)) ?_
   rintro r ⟨hr,_⟩
   have hr':=hr.rep hxl
   have hrl:=hr'.1
   have hs':=hs.many g.hes h0 h1 h2 m (by rw[<-hx0];exact hdv)
   have hsb:=(hs'.bds g hp).1 v h0 h1
   simp only[one,if_true]at hsb
   refine Ep.pos (by omega) ?_
   rw[hc.2 v h0 h1,aCk (x:=s v+(m:Int)) (by omega) (by omega)]
   refine Ep.bind (aPd n es r q (by omega) (by omega)) ?_
   rintro _ rfl
   refine ih (λw=>s w+one v m w) r _ ?_ hs' (hr'.congr λw w0 w1=>?_) ((hc.set h0 h1 _).congr λw _ _=>?_)
   ·rw[bBn h0 h1]
    omega
   ·have h5:rd x w=rd p w-lap es s w:=hx.2 w w0 w1
    rw[h5,aHo]
    omega
   ·unfold one
    by_cases e:w=v
    ·rw[if_pos e,if_pos e,e]
    ·rw[if_neg e,if_neg e]
     omega
  ·refine Ep.pos (by omega) (Ep.pos (by omega) (Ep.now ?_))
   refine⟨s,hs,λv h0 h1 h2=>?_,hx.set hq.1 hq.2 0,hc⟩
   have h3:=bBl (es:=es) (q:=q) hxl (by omega) v h0 h1 h2
   rw[hx.2 v h0 h1]at h3
   exact h3
theorem bCf {n:Nat} {es:List E} {q:Int} (g:Gr n es q) {p:List Int} (hp:Pre n q p):Ep (λk=>aBa.f k (n:Int) es p q) (·=aGe n es q p):=by
 have hn:=g.n6
 have hl:=hp.len
 have hel:=g.hel
 simp only[aBa.f]
 refine Ep.aEr (copy_eq p (by omega)) (Ep.pos (by omega) (Ep.pos (by omega) ?_))
 refine Ep.bind (aPd n es p q (by omega) (by omega)) ?_
 rintro _ rfl
 refine(aT2 g hp 216001 (λ_=>0) p _ ?_ .zero ((Rep.self hl).congr λw _ _=>?_) (Rep.zero n)).mono λr hr=>hr.eq
 ·simp only[aFo];omega
 ·rw[aI4 (c:=0) (λ_ _=>⟨rfl,rfl⟩)]
  omega
theorem aQw {n:Int} {e:E} (h:EOk n e) {a b:Int} (hab:a≠b):aG0 a b e=if e.f0=mn a b/\e.f1=mx a b then 1 else 0:=by
 unfold EOk at h
 unfold aG0 mn mx
 by_cases c:b<a
 ·rw[if_pos c,if_neg (show ¬ a<b by omega)]
  by_cases x:e.f0=b/\e.f1=a
  ·rw[if_pos (.inr x),if_pos x]
  ·rw[if_neg (by omega),if_neg x]
 ·rw[if_neg c,if_pos (show a<b by omega)]
  by_cases x:e.f0=a/\e.f1=b
  ·rw[if_pos (.inl x),if_pos x]
  ·rw[if_neg (by omega),if_neg x]
theorem aKt {n:Int} {es:List E} (hes:∀ e∈es,EOk n e) (a:Int):mult es a a=0:=by
 apply aIz
 intro e he
 have h:=hes e he
 unfold EOk at h
 unfold aG0
 rw[if_neg (by omega)]
theorem aQv {es:List E} {i:Nat} (h:i<es.length) (a b:Int):mult (es.drop i) a b=aG0 a b es[i]+mult (es.drop (i+1)) a b:=by
 rw[List.drop_eq_getElem_cons h]
 exact aDb _ _ _
theorem aSi (n:Int) (es:List E) (hes:∀ e∈es,EOk n e) (hel:es.length<=12) (a b:Int) (hab:a≠b):∀ (d i:Nat) (c:Int),i+d=es.length->0<=c->c<=i->Ep (λk=>aAh.l0 k a b c es (es.length:Int) (i:Int)) (·=c+mult (es.drop i) a b):=by
 intro d
 induction d with
 | zero =>
  intro i c hi h0 h1
  refine Ep.up ?_
  simp only[aAh.l0]
  refine Ep.neg (by omega) (Ep.now ?_)
  rw[List.drop_of_length_le (by omega)]
  simp[mult,aHz]
 | succ d ih =>
  intro i c hi h0 h1
  have hlt:i<es.length:=by omega
  have hk:=hes _ (List.getElem_mem hlt)
  refine Ep.up ?_
  simp only[aAh.l0]
  refine Ep.pos (by omega) (Ep.pos (by omega) (Ep.pos (by omega) ?_))
  rw[aFu hlt,wrap_succ (by omega),aCk (x:=c+1) (by omega) (by omega),aQv hlt,aQw hk hab]
  refine Ep.ite (λh=>Ep.ite (λh2=>?_) (λh2=>?_)) (λh=>?_)
  ·rw[if_pos ⟨h,h2⟩]
   refine(ih (i+1) (c+1) (by omega) (by omega) (by omega)).mono ?_
   rintro _ rfl
   omega
  ·rw[if_neg (λx=>h2 x.2)]
   refine(ih (i+1) c (by omega) (by omega) (by omega)).mono ?_
   rintro _ rfl
   omega
  ·rw[if_neg (λx=>h x.1)]
   refine(ih (i+1) c (by omega) (by omega) (by omega)).mono ?_
   rintro _ rfl
   omega
theorem aOf (n:Int) (es:List E) (v:Int):aD7.f n es v=some (decide (0<=v/\v<n)):=by
 unfold aD7.f
 by_cases h:v≥0
 ·rw[if_pos h]
  have:(0<=v/\v<n)↔v<n:=⟨λx=>x.2,λx=>⟨h,x⟩⟩
  simp only[this]
 ·rw[if_neg h]
  have:¬ (0<=v/\v<n):=λx=>h x.1
  simp only[this,decide_false]
theorem aUb (n:Int) (es:List E) (hes:∀ e∈es,EOk n e) (hel:es.length<=12) (a b:Int) (ha:0<=a/\a<n) (hb:0<=b/\b<n):Ep (λk=>aAh.f k n es a b) (·=mult es a b):=by
 simp only[aAh.f]
 refine Ep.aEr (aOf _ _ _) (Ep.pos (by simpa using ha) (Ep.aEr (aOf _ _ _) (Ep.pos (by simpa using hb) ?_)))
 refine Ep.up ?_
 simp only[aAh.j0]
 refine Ep.ite (λh=>Ep.now ?_) (λh=>?_)
 ·have:a=b:=by simpa using h
  rw[this,aKt hes]
 ·have hab:a≠b:=by simpa using h
  refine(aSi n es hes hel a b hab es.length 0 0 (by omega) (by omega) (by omega)).mono ?_
  rintro _ rfl
  simp
theorem aT5 (n:Int) (es:List E) (hes:∀ e∈es,EOk n e) (hel:es.length<=12) (a b:Int) (hab:a≠b):∀ (d i:Nat) (c:Int),i+d=es.length->0<=c->c<=i->Ep (λk=>aAe.l0 k a b c es (es.length:Int) (i:Int)) (·=c+mult (es.drop i) a b):=by
 intro d
 induction d with
 | zero =>
  intro i c hi h0 h1
  refine Ep.up ?_
  simp only[aAe.l0]
  refine Ep.neg (by omega) (Ep.now ?_)
  rw[List.drop_of_length_le (by omega)]
  simp[mult,aHz]
 | succ d ih =>
  intro i c hi h0 h1
  have hlt:i<es.length:=by omega
  have hk:=hes _ (List.getElem_mem hlt)
  refine Ep.up ?_
  simp only[aAe.l0]
  refine Ep.pos (by omega) (Ep.pos (by omega) (Ep.pos (by omega) ?_))
  rw[aFu hlt,wrap_succ (by omega),aCk (x:=c+1) (by omega) (by omega),aQv hlt,aQw hk hab]
  refine Ep.ite (λh=>Ep.ite (λh2=>?_) (λh2=>?_)) (λh=>?_)
  ·rw[if_pos ⟨h,h2⟩]
   refine(ih (i+1) (c+1) (by omega) (by omega) (by omega)).mono ?_
   rintro _ rfl
   omega
  ·rw[if_neg (λx=>h2 x.2)]
   refine(ih (i+1) c (by omega) (by omega) (by omega)).mono ?_
   rintro _ rfl
   omega
  ·rw[if_neg (λx=>h x.1)]
   refine(ih (i+1) c (by omega) (by omega) (by omega)).mono ?_
   rintro _ rfl
   omega
theorem aV3 (n:Int) (es:List E) (hes:∀ e∈es,EOk n e) (hel:es.length<=12) (a b:Int) (ha:0<=a/\a<n) (hb:0<=b/\b<n):Ep (λk=>aAe.f k n es a b) (·=mult es a b):=by
 simp only[aAe.f]
 refine Ep.neg (by unfold mn;split<;>omega) (Ep.neg (by unfold mx;split<;>omega) ?_)
 refine Ep.up ?_
 simp only[aAe.j0]
 refine Ep.ite (λh=>Ep.now ?_) (λh=>?_)
 ·have:a=b:=by simpa using h
  rw[this,aKt hes]
 ·have hab:a≠b:=by simpa using h
  refine(aT5 n es hes hel a b hab es.length 0 0 (by omega) (by omega) (by omega)).mono ?_
  rintro _ rfl
  simp
def bE0 (x:Int):List Int->Nat->Int
 | [],_=>-1
 | a::r,i=>if x=a then i else bE0 x r (i+1)
theorem aZ9 {l:List Int} {i:Nat} (h:i<l.length) (x:Int) (j:Nat):bE0 x (l.drop i) j=if x=l[i] then(j:Int) else bE0 x (l.drop (i+1)) (j+1):=by
 rw[List.drop_eq_getElem_cons h]
 rfl
theorem aV6 (x:Int):∀ (l:List Int) (i:Nat),0<=bE0 x l i↔x∈l
 | [],i=>by simp[bE0]
 | a::r,i=>by
  unfold bE0
  by_cases h:x=a
  ·rw[if_pos h,h];simp
  ·rw[if_neg h,aV6 x r (i+1)];simp[h]
theorem bCe (l:List Int) (x:Int) (hl:l.length<=1048576):∀ (d i:Nat),i+d=l.length->Ep (λk=>aB2.l0 k l x (l.length:Int) (i:Int)) (·=bE0 x (l.drop i) i):=by
 intro d
 induction d with
 | zero =>
  intro i hi
  refine Ep.up ?_
  simp only[aB2.l0]
  refine Ep.neg (by omega) (Ep.now ?_)
  rw[List.drop_of_length_le (by omega)]
  rfl
 | succ d ih =>
  intro i hi
  have hlt:i<l.length:=by omega
  refine Ep.up ?_
  simp only[aB2.l0]
  refine Ep.pos (by omega) (Ep.pos (by omega) (Ep.pos (by omega) ?_))
  rw[aEc hlt,wrap_succ (by omega),aZ9 hlt]
  refine Ep.ite (λh=>Ep.now ?_) (λh=>?_)
  ·rw[if_pos h]
  ·rw[if_neg h]
   exact ih (i+1) (by omega)
theorem bCd (l:List Int) (x:Int) (hl:l.length<=1048576):Ep (λk=>aB2.f k l x) (·=bE0 x l 0):=by
 have:=bCe l x hl l.length 0 (by omega)
 simp only[aB2.f]
 exact this
theorem aTk (l:List Int) (x:Int) (hl:l.length<=1048576):Ep (λk=>aBy.f k l x) (·=decide (x∈l)):=by
 simp only[aBy.f]
 refine Ep.bind (bCd l x hl) ?_
 rintro _ rfl
 refine Ep.now ?_
 have:=aV6 x l 0
 simp only[ge_iff_le,this]
theorem aOl {es:List E} (hel:es.length<=12) (v:Int):∀ (b:List Int),0<=aEl es b v/\aEl es b v<=12*b.length
 | []=>by simp[aEl]
 | a::r=>by
  have ih:=aOl hel v r
  have h0:=aFe es v a
  have h1:=aJ7 es v a
  unfold aEl at ih ⊢
  rw[List.map_cons,List.sum_cons,List.length_cons]
  omega
theorem aTb {n:Nat} {es:List E} {q:Int} (g:Gr n es q) (d:List Int) (hd:d.length=n) (b:List Int) (hok:b.Nodup/\∀ v∈b,0<=v/\v<n) (hbl:b.length<=n) (v:Nat) (hv:v<n) {Q:List Int->Prop}
  (hk:Ep (λk=>aB1.l1 k d b (if(v:Int)∉b/\rd d v<aEl es b v then(v:Int) else -1) ((v+1:Nat):Int) (n:Int) es) Q) :
  ∀ (dd i:Nat),i+dd=b.length->Ep (λk=>aB1.l2 k d b (-1) (v:Int) (aEl es (b.take i) v) b (b.length:Int) (i:Int) (n:Int) es) Q:=by
 have hn:=g.n6
 have hel:=g.hel
 intro dd
 induction dd with
 | zero =>
  intro i hi
  rw[List.take_of_length_le (by omega)]
  refine Ep.up ?_
  simp only[aB1.l2]
  have hw:=wrap_succ (i:=v) (by omega)
  rw[hw]
  refine Ep.neg (by omega) ?_
  refine Ep.bind (aTk b v (by omega)) ?_
  rintro _ rfl
  refine Ep.ite (λh=>?_) (λh=>?_)
  ·have h':(v:Int)∈b:=by simpa using h
   rw[if_neg (λy=>y.1 h')]at hk
   exact hk
  ·have h':(v:Int)∉b:=by simpa using h
   refine Ep.pos (by omega) (Ep.pos (by omega) (Ep.ite (λh2=>?_) (λh2=>?_)))
   ·rw[if_pos ⟨h',h2⟩]at hk
    exact hk
   ·rw[if_neg (λy=>h2 y.2)]at hk
    exact hk
 | succ dd ih =>
  intro i hi
  have hlt:i<b.length:=by omega
  have hbi:=hok.2 _ (List.getElem_mem hlt)
  have hb:=aOl hel v (b.take i)
  have hml:=aJ7 es v b[i]
  have hm0:=aFe es v b[i]
  rw[List.length_take]at hb
  have e:aEl es (b.take (i+1)) v=aEl es (b.take i) v+mult es v b[i]:=by
   unfold aEl
   rw[List.take_succ_eq_append_getElem hlt,List.map_append,List.sum_append]
   simp
  have ih':=ih (i+1) (by omega)
  rw[e]at ih'
  refine Ep.up ?_
  simp only[aB1.l2]
  refine Ep.pos (by omega) (Ep.pos (by omega) (Ep.pos (by omega) ?_))
  rw[aEc hlt,wrap_succ (by omega)]
  refine Ep.bind (aV3 n es g.hes hel v b[i] (by omega) hbi) ?_
  rintro _ rfl
  rw[aCk (by omega) (by omega)]
  exact ih'
theorem aTc {n:Nat} {es:List E} {q:Int} (g:Gr n es q) (d:List Int) (hd:d.length=n) (b:List Int) (hok:b.Nodup/\∀ v∈b,0<=v/\v<n) (hbl:b.length<=n) {Q:List Int->Prop}
  (hk:Ep (λk=>if aI2 es (rd d) b n 0<0 then some b else(if b.length<17592186044416 then aB1.l0 k d (b++[aI2 es (rd d) b n 0]) (n:Int) es else none)) Q) :
  ∀ (dd i:Nat),i+dd=n->aI2 es (rd d) b n 0=aI2 es (rd d) b dd i->Ep (λk=>aB1.l1 k d b (-1) (i:Int) (n:Int) es) Q:=by
 have hn:=g.n6
 intro dd
 induction dd with
 | zero =>
  intro i hi he
  rw[he]at hk
  simp only[aI2]at hk
  refine Ep.up ?_
  simp only[aB1.l1]
  refine Ep.neg (by omega) (Ep.up ?_)
  simp only[aB1.j2]
  exact Ep.neg (by simp) hk
 | succ dd ih =>
  intro i hi he
  refine Ep.up ?_
  simp only[aB1.l1]
  refine Ep.pos (by omega) (Ep.up ?_)
  simp only[aB1.j2]
  refine Ep.pos (by simp) ?_
  have h2:=aTb (Q:=Q) g d hd b hok hbl i (by omega) ?_ b.length 0 (by omega)
  ·simpa[aEl]using h2
  ·replace he:aI2 es (rd d) b n 0=(if(i:Int)∉b/\rd d i<aEl es b i then(i:Int) else aI2 es (rd d) b dd (i+1)):=he
   by_cases h:(i:Int)∉b/\rd d i<aEl es b i
   ·rw[if_pos h]at he ⊢
    rw[he]at hk
    refine Ep.up ?_
    simp only[aB1.l1]
    refine Ep.ite (λ_=>?_) (λ_=>?_)
    ·refine Ep.up ?_
     simp only[aB1.j2]
     exact Ep.neg (by simp) hk
    ·refine Ep.up ?_
     simp only[aB1.j2]
     exact Ep.neg (by simp) hk
   ·rw[if_neg h]at he ⊢
    exact ih (i+1) (by omega) he
theorem aTd {n:Nat} {es:List E} {q:Int} (g:Gr n es q) (d:List Int) (hd:d.length=n):∀ (k:Nat) (b:List Int),n+1<=b.length+k->aPx n es (rd d) q b->Ep (λf=>aB1.l0 f d b (n:Int) es) (·=aRo n es (rd d) k b):=by
 have hn:=g.n6
 intro k
 induction k with
 | zero =>
  intro b hl hb
  have:=hb.len g.hq
  omega
 | succ k ih =>
  intro b hl hb
  have hok:=hb.ok g.hq
  have hlen:=hb.len g.hq
  refine Ep.up ?_
  simp only[aB1.l0]
  refine aTc (Q:=(·=aRo n es (rd d) (k+1) b)) g d hd b ⟨hok.1,hok.2.1⟩ hlen ?_ n 0 (by omega) rfl
  unfold aRo
  have hnx:=aMj es (rd d) b n 0
  generalize aI2 es (rd d) b n 0=v at hnx ⊢
  refine Ep.ite (λh=>Ep.now ?_) (λh=>?_)
  ·rw[if_pos h]
  ·rw[if_neg h]
   rcases hnx with ⟨h2,_⟩|⟨h2,h3,h4,h5⟩
   ·omega
   ·exact Ep.pos (by omega) (ih _ (by simp;omega) (hb.step (by omega) (by omega) h4 h5))
theorem aV5 {n:Nat} {es:List E} {q:Int} (g:Gr n es q) (d:List Int) (hd:d.length=n):Ep (λk=>aB1.f k (n:Int) es d q) (·=aK8 n es (rd d) q):=by
 have hn:=g.n6
 simp only[aB1.f]
 exact aTd g d hd n [q] (by simp;omega) .start
end Cf
namespace Cf
def alt:Nat->(Nat->Int)->Int
 | 0,_=>0
 | n+1,g=>g 0-alt n λi=>g (i+1)
theorem aGn:∀ {n:Nat} {f g:Nat->Int},(∀ i,i<n->f i=g i)->alt n f=alt n g
 | 0,_,_,_=>rfl
 | n+1,f,g,h=>by
  unfold alt
  rw[h 0 (by omega),aGn (n:=n) (f:=λi=>f (i+1)) (g:=λi=>g (i+1)) λi hi=>h (i+1) (by omega)]
theorem aVi {n:Nat} {g:Nat->Int} (h:∀ i,i<n->g i=0):alt n g=0:=by
 induction n generalizing g with
 | zero=>rfl
 | succ n ih =>
  unfold alt
  rw[h 0 (by omega),ih λi hi=>h (i+1) (by omega)]
  rfl
theorem bLy {n:Nat} {g:Nat->Int} {C:Int} (h:∀ i,i<n→-C<=g i/\g i<=C):-(n*C)<=alt n g/\alt n g<=n*C:=by
 induction n generalizing g with
 | zero=>simp[alt]
 | succ n ih =>
  have h0:=h 0 (by omega)
  have h1:=ih (g:=λi=>g (i+1)) λi hi=>h (i+1) (by omega)
  unfold alt
  have e:((n+1:Nat):Int)*C=n*C+C:=by rw[Int.natCast_add,Int.add_mul];simp
  omega
theorem bH6 (n:Nat) (f g:Nat->Int):alt n (λi=>f i+g i)=alt n f+alt n g:=by
 induction n generalizing f g with
 | zero=>rfl
 | succ n ih =>
  unfold alt
  rw[ih (λi=>f (i+1)) (λi=>g (i+1))]
  show f 0+g 0-_=_
  omega
theorem aTo (n:Nat) (c:Int) (f:Nat->Int):alt n (λi=>c*f i)=c*alt n f:=by
 induction n generalizing f with
 | zero=>simp[alt]
 | succ n ih =>
  unfold alt
  rw[ih (λi=>f (i+1)),Int.mul_sub]
def ent (M:List (List Int)) (r c:Int):Int:=rd (M.getD r.toNat []) c
def aIq (M:List (List Int)):List Int->List Int->Int
 | [],_=>1
 | r::rs,cs=>alt cs.length λi=>ent M r (cs.getD i 0)*aIq M rs (cs.eraseIdx i)
theorem aYu {a b A B:Int} (ha:-A<=a/\a<=A) (hb:-B<=b/\b<=B):-(A*B)<=a*b/\a*b<=A*B:=by
 have hA:0<=A:=by omega
 have h1:a.natAbs*b.natAbs<=A.natAbs*B.natAbs:=Nat.mul_le_mul (by omega) (by omega)
 rw[<-Int.natAbs_mul,<-Int.natAbs_mul]at h1
 have h2:0<=A*B:=Int.mul_nonneg (by omega) (by omega)
 omega
theorem aZo {M:List (List Int)} {B:Int} (hB:0<=B) (hM:∀ r c,-B<=ent M r c/\ent M r c<=B):∀ (rs cs:List Int),cs.length<=6→-((6*B)^rs.length)<=aIq M rs cs/\aIq M rs cs<=(6*B)^rs.length
 | [],cs,_=>by simp[aIq]
 | r::rs,cs,hc=>by
  have h:=bLy (n:=cs.length) (g:=λi=>ent M r (cs.getD i 0)*aIq M rs (cs.eraseIdx i)) (C:=B*(6*B)^rs.length) λi hi =>
   aYu (hM _ _) (aZo hB hM rs (cs.eraseIdx i) (by have:=List.length_eraseIdx_le cs i;omega))
  have hp:0<=B*(6*B)^rs.length:=Int.mul_nonneg hB (Int.pow_nonneg (by omega))
  have e:(6*B)^(r::rs).length=6*(B*(6*B)^rs.length):=by
   rw[List.length_cons,Int.pow_succ,Int.mul_comm,Int.mul_assoc]
  have h6:(cs.length:Int)*(B*(6*B)^rs.length)<=6*(B*(6*B)^rs.length):=Int.mul_le_mul_of_nonneg_right (by omega) hp
  rw[e]
  unfold aIq
  omega
abbrev Col:=Int->Int
def z0:Col:=λ_=>0
def aIr:List Int->List Col->Int
 | [],_=>1
 | r::rs,cs=>alt cs.length λi=>(cs.getD i z0) r*aIr rs (cs.eraseIdx i)
def sg:Nat->Int
 | 0=>1
 | n+1=>- sg n
theorem bDt (n:Nat):sg (n+2)=sg n:=by simp[sg]
theorem bF8 (n:Nat):sg (n+n)=1:=by
 induction n with
 | zero=>rfl
 | succ n ih=>rw[show n+1+(n+1)=n+n+2 by omega,bDt,ih]
theorem bH5 (n:Nat) (g:Nat->Int):alt n (λi=>- g i)=- alt n g:=by
 have h:=aTo n (-1) g
 simpa using h
theorem aJf:∀ (j n:Nat) (g:Nat->Int),j<=n->alt (n+1) g=sg j*g j+alt n (λk=>if k<j then g k else-g (k+1))
 | 0,n,g,_=>by
  have h:=bH5 n λk=>g (k+1)
  show g 0-alt n (λi=>g (i+1))=1*g 0+alt n (λk=>if k<0 then g k else-g (k+1))
  rw[aGn (f:=λk=>if k<0 then g k else-g (k+1)) (g:=λk=>- g (k+1)) λi _=>if_neg (by omega),h]
  omega
 | j+1,0,g,h=>by omega
 | j+1,n+1,g,h=>by
  have ih:=aJf j n (λi=>g (i+1)) (by omega)
  show g 0-alt (n+1) (λi=>g (i+1))=_
  rw[ih]
  have e:alt (n+1) (λk=>if k<j+1 then g k else-g (k+1))=g 0-alt n (λk=>if k<j then g (k+1) else-g (k+1+1)):=by
   show (if 0<j+1 then g 0 else _)-alt n (λk=>if k+1<j+1 then g (k+1) else-g (k+1+1))=_
   rw[if_pos (by omega)]
   congr 1
   refine aGn λi _=>?_
   by_cases c:i<j
   ·rw[if_pos c,if_pos (by omega)]
   ·rw[if_neg c,if_neg (by omega)]
  rw[e]
  show _=- sg j*g (j+1)+_
  rw[Int.neg_mul]
  omega
theorem bH4 {n p:Nat} (hp:p+1<n) {g:Nat->Int} (h:∀ i,i<n->i≠p->i≠p+1->g i=0) (he:g p=g (p+1)):alt n g=0:=by
 obtain⟨m,rfl⟩:∃ m,n=m+2:=⟨n-2,by omega⟩
 rw[aJf p (m+1) g (by omega),aJf p m _ (by omega),if_neg (by omega),<-he,aVi λi hi=>?_]
 ·rw[Int.mul_neg];omega
 ·by_cases c:i<p
  ·rw[if_pos c,if_pos c,h i (by omega) (by omega) (by omega)]
  ·rw[if_neg c,if_neg (by omega),h (i+1+1) (by omega) (by omega) (by omega)]
   simp
theorem getD_erase {α:Type} (l:List α) (i j:Nat) (d:α):(l.eraseIdx i).getD j d=l.getD (if j<i then j else j+1) d:=by
 rw[zdG,List.getElem?_eraseIdx,zdG]
 split<;>rfl
theorem aNi {α:Type} (l:List α) {j k:Nat} (h:k<j):(l.eraseIdx k).eraseIdx (j-1)=(l.eraseIdx j).eraseIdx k:=by
 apply List.ext_getElem?
 intro i
 simp only[List.getElem?_eraseIdx]
 by_cases a:i<k
 ·rw[if_pos (show i<j-1 by omega),if_pos a,if_pos a,if_pos (show i<j by omega)]
 ·by_cases b:i<j-1
  ·rw[if_pos b,if_neg a,if_neg a,if_pos (by omega)]
  ·rw[if_neg b,if_neg a,if_neg (show ¬ i+1<k by omega),if_neg (show ¬ i+1<j by omega)]
theorem aGk {α:Type} (l:List α) (p:Nat) (x:α):(l.set p x).eraseIdx p=l.eraseIdx p:=by
 apply List.ext_getElem?
 intro i
 simp only[List.getElem?_eraseIdx,List.getElem?_set]
 split
 ·rw[if_neg (by omega)]
 ·rw[if_neg (by omega)]
theorem aGl {α:Type} (l:List α) {p i:Nat} (h:i<p) (x:α):(l.set p x).eraseIdx i=(l.eraseIdx i).set (p-1) x:=by
 apply List.ext_getElem?
 intro k
 simp only[List.getElem?_eraseIdx,List.getElem?_set,List.length_eraseIdx]
 by_cases a:k<i
 ·rw[if_pos a,if_neg (by omega),if_neg (by omega),if_pos a]
 ·rw[if_neg a]
  by_cases b:p=k+1
  ·rw[if_pos b,if_pos (show p-1=k by omega)]
   by_cases c:p<l.length
   ·rw[if_pos c,if_pos (by split<;>omega)]
   ·rw[if_neg c,if_neg (by split<;>omega)]
  ·rw[if_neg b,if_neg (show ¬ p-1=k by omega),if_neg a]
theorem aGm {α:Type} (l:List α) {p i:Nat} (h:p<i) (x:α):(l.set p x).eraseIdx i=(l.eraseIdx i).set p x:=by
 apply List.ext_getElem?
 intro k
 simp only[List.getElem?_eraseIdx,List.getElem?_set,List.length_eraseIdx]
 by_cases a:k<i
 ·rw[if_pos a,if_pos a]
  by_cases b:p=k
  ·rw[if_pos b,if_pos b]
   by_cases c:p<l.length
   ·rw[if_pos c,if_pos (by split<;>omega)]
   ·rw[if_neg c,if_neg (by split<;>omega)]
  ·rw[if_neg b,if_neg b]
 ·rw[if_neg a,if_neg a,if_neg (by omega),if_neg (by omega)]
theorem aDw {α:Type} (l:List α) (p i:Nat) (x d:α):(l.set p x).getD i d=if i=p/\p<l.length then x else l.getD i d:=by
 rw[zdG,List.getElem?_set,zdG]
 by_cases c:p=i
 ·subst c
  by_cases b:p<l.length
  ·rw[if_pos rfl,if_pos b,if_pos ⟨rfl,b⟩];rfl
  ·rw[if_pos rfl,if_neg b,if_neg (by omega),List.getElem?_eq_none (by omega)]
 ·rw[if_neg c,if_neg (by omega)]
theorem aJk {rs:List Int}:∀ {cs ds:List Col},cs.length=ds.length->(∀ i,i<cs.length->∀ r∈rs,(cs.getD i z0) r=(ds.getD i z0) r)->aIr rs cs=aIr rs ds:=by
 induction rs with
 | nil=>intro cs ds _ _;rfl
 | cons r rs ih =>
  intro cs ds hl h
  unfold aIr
  rw[<-hl]
  refine aGn λi hi=>?_
  rw[h i hi r List.mem_cons_self]
  congr 1
  refine ih (by rw[List.length_eraseIdx,List.length_eraseIdx,hl]) λk hk r' hr'=>?_
  rw[getD_erase,getD_erase]
  have:(cs.eraseIdx i).length=cs.length-1:=by rw[List.length_eraseIdx,if_pos hi]
  exact h _ (by split<;>omega) r' (List.mem_cons_of_mem _ hr')
theorem aMp (u w:Col) (t:Int):∀ {rs:List Int} {cs:List Col} {p:Nat},rs.length=cs.length->p<cs.length->aIr rs (cs.set p λr=>u r+t*w r)=aIr rs (cs.set p u)+t*aIr rs (cs.set p w)
 | [],cs,p,h,hp=>by simp at h;omega
 | r::rs,cs,p,h,hp=>by
  unfold aIr
  simp only[List.length_set]
  rw[<-aTo,<-bH6]
  refine aGn λi hi=>?_
  by_cases c:i=p
  ·subst c
   rw[aGk,aGk,aGk,aDw,aDw,aDw,if_pos ⟨rfl,hp⟩,if_pos ⟨rfl,hp⟩,if_pos ⟨rfl,hp⟩,Int.add_mul,Int.mul_assoc]
  ·have hl:(cs.eraseIdx i).length=cs.length-1:=by rw[List.length_eraseIdx,if_pos hi]
   have hr:rs.length=cs.length-1:=by simp at h;omega
   rw[aDw,aDw,aDw,if_neg (by omega),if_neg (by omega),if_neg (by omega)]
   by_cases d:i<p
   ·rw[aGl _ d,aGl _ d,aGl _ d,aMp u w t (by omega) (by omega),Int.mul_add,Int.mul_left_comm]
   ·rw[aGm _ (by omega),aGm _ (by omega),aGm _ (by omega),aMp u w t (by omega) (by omega),Int.mul_add,Int.mul_left_comm]
theorem aKz:∀ {rs:List Int} {cs:List Col} {p:Nat},rs.length=cs.length->p+1<cs.length->cs.getD p z0=cs.getD (p+1) z0->aIr rs cs=0
 | [],cs,p,h,hp,_=>by simp at h;omega
 | r::rs,cs,p,h,hp,he=>by
  unfold aIr
  refine bH4 hp (λi hi h1 h2=>?_) ?_
  ·have hl:(cs.eraseIdx i).length=cs.length-1:=by rw[List.length_eraseIdx,if_pos hi]
   have hr:rs.length=cs.length-1:=by simp at h;omega
   by_cases d:i<p
   ·rw[aKz (p:=p-1) (by omega) (by omega) (by rw[getD_erase,getD_erase,if_neg (by omega),if_neg (by omega),show p-1+1=p by omega];exact he),Int.mul_zero]
   ·rw[aKz (p:=p) (by omega) (by omega) (by rw[getD_erase,getD_erase,if_pos (by omega),if_pos (by omega)];exact he),Int.mul_zero]
  ·have e:cs.eraseIdx p=cs.eraseIdx (p+1):=by
    apply List.ext_getElem?
    intro k
    simp only[List.getElem?_eraseIdx]
    by_cases a:k<p
    ·rw[if_pos a,if_pos (by omega)]
    ·by_cases b:k=p
     ·subst b
      rw[if_neg (by omega),if_pos (by omega)]
      rw[zdG,zdG,zdH (show k<cs.length by omega),zdH (show k+1<cs.length by omega)]at he
      rw[zdH (show k<cs.length by omega),zdH (show k+1<cs.length by omega)]
      simp only[Option.getD_some]at he
      rw[he]
     ·rw[if_neg (by omega),if_neg (by omega)]
   rw[he,e]
theorem set_self {α:Type} {l:List α} {p:Nat} (d:α) (hp:p<l.length):l.set p (l.getD p d)=l:=by
 apply List.ext_getElem?
 intro i
 rw[List.getElem?_set]
 by_cases c:p=i
 ·subst c
  rw[if_pos rfl,if_pos hp,zdG,zdH hp];rfl
 ·rw[if_neg c]
theorem aN7 {α:Type} (l:List α) {p q:Nat} (h:p≠q) (x y:α):(l.set p x).set q y=(l.set q y).set p x:=List.set_comm x y h
theorem aMq {rs:List Int} {cs:List Col} {p:Nat} (u w:Col) (h:rs.length=cs.length) (hp:p<cs.length):aIr rs (cs.set p λr=>u r+w r)=aIr rs (cs.set p u)+aIr rs (cs.set p w):=by
 have:=aMp u w 1 h hp
 simpa using this
theorem aZp {rs:List Int} {cs:List Col} {p:Nat} (h:rs.length=cs.length) (hp:p+1<cs.length) (x y:Col):aIr rs ((cs.set p x).set (p+1) y)=- aIr rs ((cs.set p y).set (p+1) x):=by
 have hz:∀ z:Col,aIr rs ((cs.set p z).set (p+1) z)=0:=λz=>by
  refine aKz (p:=p) (by simpa using h) (by simpa using hp) ?_
  rw[aDw,aDw,if_neg (by omega),aDw,if_pos ⟨rfl,by omega⟩,if_pos ⟨rfl,by simpa using hp⟩]
 have h1:=hz λr=>x r+y r
 have a1:∀ z:Col,aIr rs ((cs.set p λr=>x r+y r).set (p+1) z)=aIr rs ((cs.set p x).set (p+1) z)+aIr rs ((cs.set p y).set (p+1) z):=λz=>by
  rw[aN7 cs (by omega) _ z,aMq x y (by simpa using h) (by rw[List.length_set];omega),aN7 cs (by omega) z x,aN7 cs (by omega) z y]
 rw[aMq x y (by simpa using h) (by simpa using hp),a1 x,a1 y,hz x,hz y]at h1
 omega
theorem aNm {rs:List Int}:∀ (d:Nat) {cs:List Col} {p:Nat},rs.length=cs.length->p+d+1<cs.length->cs.getD p z0=cs.getD (p+d+1) z0->aIr rs cs=0
 | 0,cs,p,h,hp,he=>aKz h hp he
 | d+1,cs,p,h,hp,he=>by
  have e:cs=(cs.set (p+d+1) (cs.getD (p+d+1) z0)).set (p+d+1+1) (cs.getD (p+d+2) z0):=by
   rw[set_self z0 (by omega),set_self z0 (by omega)]
  rw[e,aZp h (by omega),aNm d (p:=p) (by simpa using h) (by rw[List.length_set,List.length_set];omega),Int.neg_zero]
  rw[aDw,if_neg (by omega),aDw,if_neg (by omega),aDw,if_neg (by omega),aDw,if_pos ⟨rfl,by omega⟩]
  exact he
theorem aRl {rs:List Int} {cs:List Col} {p:Nat} (h:rs.length=cs.length) (hp:p<cs.length):aIr rs (cs.set p z0)=0:=by
 have h1:=aMq (p:=p) z0 z0 h hp
 have e:(λr=>z0 r+z0 r)=z0:=rfl
 rw[e]at h1
 omega
theorem aRm {rs:List Int} {cs:List Col} {p:Nat} (h:rs.length=cs.length) (hp:p<cs.length):∀ (L:List (Int×Nat)),(∀ x∈L,x.2<cs.length/\x.2≠p)->aIr rs (cs.set p λr=>(L.map λx=>x.1*(cs.getD x.2 z0) r).sum)=0
 | [],_=>aRl h hp
 | x::L,hL=>by
  have hx:=hL x List.mem_cons_self
  have e:(λr=>((x::L).map λy=>y.1*(cs.getD y.2 z0) r).sum)=λr=>(L.map λy=>y.1*(cs.getD y.2 z0) r).sum+x.1*(cs.getD x.2 z0) r:=by
   funext r
   rw[List.map_cons,List.sum_cons,Int.add_comm]
  rw[e,aMp _ _ _ h hp,aRm h hp L λy hy=>hL y (List.mem_cons_of_mem _ hy)]
  have:aIr rs (cs.set p (cs.getD x.2 z0))=0:=by
   by_cases c:x.2<p
   ·refine aNm (p-x.2-1) (p:=x.2) (by simpa using h) (by rw[List.length_set];omega) ?_
    rw[aDw,if_neg (by omega),show x.2+(p-x.2-1)+1=p by omega,aDw,if_pos ⟨rfl,hp⟩]
   ·refine aNm (x.2-p-1) (p:=p) (by simpa using h) (by rw[List.length_set];omega) ?_
    rw[show p+(x.2-p-1)+1=x.2 by omega,aDw,if_pos ⟨rfl,hp⟩,aDw,if_neg (by omega)]
  rw[this]
  simp
end Cf
namespace Cf
open P
def aHt (m i:Nat):List Int:=((List.range i).filter λj=>m.testBit j).map λj:Nat=>(j:Int)
def aG9 (m:Nat):List Int:=aHt m 6
theorem bLt:∀ (m:Fin 64) (i:Fin 7),(shr .i64 (m.val:Int) (i.val:Int)>0/\i.val<6)∨(¬ shr .i64 (m.val:Int) (i.val:Int)>0/\aHt m.val i.val=aG9 m.val):=by decide
theorem bE9:∀ (m:Fin 64) (i:Fin 6),(Go.bits .and .i64 (shr .i64 (m.val:Int) (i.val:Int)) 1=1/\m.val.testBit i.val=true)∨(Go.bits .and .i64 (shr .i64 (m.val:Int) (i.val:Int)) 1=0/\m.val.testBit i.val=false):=by decide
theorem aOm (m i:Nat):aHt m (i+1)=aHt m i++(if m.testBit i then [(i:Int)] else []):=by
 unfold aHt
 rw[List.range_succ,List.filter_append,List.map_append]
 congr 1
 by_cases c:m.testBit i=true
 ·rw[if_pos c,List.filter_cons_of_pos (by simpa using c)];rfl
 ·rw[if_neg c,List.filter_cons_of_neg (by simpa using c)];rfl
theorem aRp (m i:Nat):(aHt m i).length<=i:=by
 unfold aHt
 rw[List.length_map]
 exact Nat.le_trans (List.length_filter_le _ _) (by simp)
theorem bGy:∀ (m:Fin 64) (i:Fin 6),m.val.testBit i.val=true->∃ m':Fin 64,Go.bits .andNot .i64 (m.val:Int) (shl .i64 1 (i.val:Int))=(m'.val:Int)/\aG9 m'.val=(aG9 m.val).eraseIdx (aHt m.val i.val).length/\(aG9 m.val)[(aHt m.val i.val).length]? = some (i.val:Int)/\m'.val<=m.val:=by decide
theorem bLu:∀ (m:Fin 64) (i:Fin 7),m.val<2^i.val->aHt m.val i.val=aG9 m.val:=by decide
theorem bD4:∀ i:Fin 7,aG9 (2^i.val-1)=(List.range i.val).map (λj:Nat=>(j:Int))/\shl .i64 1 (i.val:Int)=((2^i.val:Nat):Int)/\(2^i.val-1:Nat)<64/\0<2^i.val:=by decide
theorem bGx {i:Nat} (hi:i<7):aG9 (2^i-1)=(List.range i).map (λj:Nat=>(j:Int))/\wrap64 (shl .i64 1 (i:Int)-1)=((2^i-1:Nat):Int)/\shl .i64 1 (i:Int)=((2^i:Nat):Int)/\(2^i-1:Nat)<64:=by
 obtain⟨h1,h2,h3,h4⟩:=bD4 ⟨i,hi⟩
 simp only at h1 h2 h3 h4
 refine⟨h1,?_,h2,h3⟩
 rw[h2,aCk (by omega) (by omega)]
 omega
theorem aTe {m:Nat} (hm:m<64):∀ (d i:Nat),i+d=6->Ep (λk=>aC5.l0 k (m:Int) (aHt m i) (i:Int)) (·=aG9 m):=by
 intro d
 induction d with
 | zero =>
  intro i hi
  refine Ep.up ?_
  simp only[aC5.l0]
  rcases bLt ⟨m,hm⟩ ⟨i,by omega⟩ with ⟨_,h⟩|⟨h1,h2⟩
  ·exact absurd h (by simp;omega)
  ·exact Ep.pos (by omega) (Ep.neg h1 (Ep.now h2))
 | succ d ih =>
  intro i hi
  have h:=ih (i+1) (by omega)
  rw[aOm]at h
  refine Ep.up ?_
  simp only[aC5.l0]
  rcases bLt ⟨m,hm⟩ ⟨i,by omega⟩ with ⟨h1,_⟩|⟨h1,h2⟩
  ·refine Ep.pos (by omega) (Ep.pos h1 ?_)
   rw[wrap_succ (by omega)]
   rcases bE9 ⟨m,hm⟩ ⟨i,by omega⟩ with ⟨b1,b2⟩|⟨b1,b2⟩
   ·rw[if_pos b2]at h
    exact Ep.pos b1 (Ep.pos (by have:=aRp m i;omega) h)
   ·have b1':Go.bits .and .i64 (shr .i64 (m:Int) (i:Int)) 1=0:=b1
    rw[if_neg (by simpa using b2),List.append_nil]at h
    exact Ep.neg (by rw[b1'];omega) h
  ·exact Ep.pos (by omega) (Ep.neg h1 (Ep.now h2))
theorem bCm {m:Nat} (hm:m<64):Ep (λk=>aC5.f k (m:Int)) (·=aG9 m):=aTe hm 6 0 rfl
end Cf
namespace Cf
structure Rec (c:Int) (F:List E->List Int->Int):Prop where
 perm:∀ {es es':List E} {vs:List Int},es.Perm es'->F es vs=F es' vs
 nil:F [] []=1
 loop:∀ (e:E) (es:List E) (vs:List Int),vs.Nodup->e.f0∉vs->e.f1∉vs->F (e::es) vs=c*F es vs
 cut:∀ (e:E) (es:List E) (vs:List Int) (u v:Int),(e.f0=u/\e.f1=v)∨(e.f0=v/\e.f1=u)->(∀ x∈es,x.f0≠x.f1)->vs.Nodup->v∈vs->u∉vs->F (e::es) vs=F es vs+F es (vs.erase v)
 far:∀ (es:List E) (vs:List Int),(∀ x∈es,x.f0≠x.f1)->vs.Nodup->vs≠[]->(∀ e∈es,e.f0∈vs↔e.f1∈vs)->F es vs=0
structure bM4 (c:Int) (R:List E->List Int->Int->Prop):Prop where
 perm:∀ {es es':List E} {vs:List Int} {k:Int},es.Perm es'->R es vs k->R es' vs k
 nil:R [] [] 1
 loop:∀ (e:E) (es:List E) (vs:List Int) (k:Int),vs.Nodup->e.f0∉vs->e.f1∉vs->R es vs k->R (e::es) vs (c*k)
 cut:∀ (e:E) (es:List E) (vs:List Int) (u v k k':Int),(e.f0=u/\e.f1=v)∨(e.f0=v/\e.f1=u)->(∀ x∈es,x.f0≠x.f1)->vs.Nodup->v∈vs->u∉vs->R es vs k->R es (vs.erase v) k'->R (e::es) vs (k+k')
 far:∀ (es:List E) (vs:List Int),(∀ x∈es,x.f0≠x.f1)->vs.Nodup->vs≠[]->(∀ e∈es,e.f0∈vs↔e.f1∈vs)->R es vs 0
theorem bM4.of {c:Int} {F:List E->List Int->Int} {R:List E->List Int->Int->Prop} (hF:Rec c F) (hR:bM4 c R):∀ (m:Nat) (es:List E) (vs:List Int),es.length=m->(∀ x∈es,x.f0≠x.f1)->vs.Nodup->R es vs (F es vs):=by
 intro m
 induction m with
 | zero =>
  intro es vs hm hl hn
  obtain rfl:=List.length_eq_zero_iff.1 hm
  by_cases h:vs=[]
  ·rw[h,hF.nil];exact hR.nil
  ·rw[hF.far [] vs hl hn h (λe he=>by cases he)];exact hR.far [] vs hl hn h (λe he=>by cases he)
 | succ m ih =>
  intro es vs hm hl hn
  by_cases h:∃ e∈es,∃ u v:Int,((e.f0=u/\e.f1=v)∨(e.f0=v/\e.f1=u))/\v∈vs/\u∉vs
  ·obtain⟨e,he,u,v,huv,hv,hu⟩:=h
   obtain⟨l1,l2,rfl⟩:=List.append_of_mem he
   have hp:(l1++e::l2).Perm (e::(l1++l2)):=List.perm_middle
   have hl':∀ x∈l1++l2,x.f0≠x.f1:=λx hx=>hl x (by simp at hx ⊢;rcases hx with h|h<;>simp[h])
   have hm':(l1++l2).length=m:=by simp at hm ⊢;omega
   rw[hF.perm hp,hF.cut e _ vs u v huv hl' hn hv hu]
   exact hR.perm hp.symm (hR.cut e _ vs u v _ _ huv hl' hn hv hu (ih _ vs hm' hl' hn) (ih _ (vs.erase v) hm' hl' (hn.erase v)))
  ·have bKg:∀ e∈es,e.f0∈vs↔e.f1∈vs:=λe he=>⟨λh0=>Classical.byContradiction λh1=>h ⟨e,he,e.f1,e.f0,.inr ⟨rfl,rfl⟩,h0,h1⟩,λh1=>Classical.byContradiction λh0=>h ⟨e,he,e.f0,e.f1,.inl ⟨rfl,rfl⟩,h1,h0⟩⟩
   by_cases hv:vs=[]
   ·subst hv
    cases es with
    | nil=>simp at hm
    | cons e es =>
     rw[hF.loop e es [] (by simp) (by simp) (by simp)]
     exact hR.loop e es [] _ (by simp) (by simp) (by simp) (ih es [] (by simpa using hm) (λx hx=>hl x (List.mem_cons_of_mem _ hx)) hn)
   ·rw[hF.far es vs hl hn hv bKg]
    exact hR.far es vs hl hn hv bKg
theorem Rec.unique {c:Int} {F G:List E->List Int->Int} (hF:Rec c F) (hG:Rec c G) {es:List E} {vs:List Int} (hl:∀ x∈es,x.f0≠x.f1) (hn:vs.Nodup):G es vs=F es vs :=
 bM4.of hF (R:=λes vs k=>G es vs=k) ⟨λh k=>(hG.perm h).symm.trans k,hG.nil,λe es vs k hn h0 h1 h=>by rw[hG.loop e es vs hn h0 h1,h],λe es vs u v k k' huv hl hn hv hu h h'=>by rw[hG.cut e es vs u v huv hl hn hv hu,h,h'],hG.far⟩ es.length es vs rfl hl hn
def aMz (v:Int):Col:=λr=>if r=v then 1 else 0
theorem aNl {v:Int}:∀ {rs:List Int} {cs:List Col} {i p:Nat},rs.length=cs.length->p<cs.length->rs.Nodup->rs[i]? = some v->aIr rs (cs.set p (aMz v))=sg (i+p)*aIr (rs.eraseIdx i) (cs.eraseIdx p)
 | [],_,i,p,h,hp,_,hi=>by simp at hi
 | r::rs,cs,0,p,h,hp,hn,hi=>by
  obtain rfl:r=v:=by simpa using hi
  have hv:r∉rs:=(List.nodup_cons.1 hn).1
  obtain⟨n,hcn⟩:∃ n,cs.length=n+1:=⟨cs.length-1,by omega⟩
  have hrl:rs.length=n:=by simp at h;omega
  have hz:∀ k,k<cs.length->k≠p->aIr rs ((cs.set p (aMz r)).eraseIdx k)=0:=λk hk hkp=>by
   have hl:(cs.eraseIdx k).length=cs.length-1:=by rw[List.length_eraseIdx,if_pos hk]
   have key:∀ q:Nat,q<(cs.eraseIdx k).length->aIr rs ((cs.eraseIdx k).set q (aMz r))=0:=λq hq=>by
    rw[<-aRl (rs:=rs) (cs:=cs.eraseIdx k) (p:=q) (by omega) hq]
    refine aJk (by simp) λj hj s hs=>?_
    rw[aDw,aDw]
    split
    ·show (if s=r then (1:Int) else 0)=0
     rw[if_neg (λe:s=r=>hv (e▸hs))]
    ·rfl
   by_cases d:k<p
   ·rw[aGl _ d];exact key _ (by omega)
   ·rw[aGm _ (by omega)];exact key _ (by omega)
  show alt (cs.set p (aMz r)).length (λi=>((cs.set p (aMz r)).getD i z0) r*aIr rs ((cs.set p (aMz r)).eraseIdx i))=sg (0+p)*aIr rs (cs.eraseIdx p)
  rw[List.length_set,hcn,aJf p n _ (by omega),aVi λk hk=>?_]
  ·rw[aDw,if_pos ⟨rfl,hp⟩,aGk]
   show sg p*((if r=r then (1:Int) else 0)*aIr rs (cs.eraseIdx p))+0=sg (0+p)*aIr rs (cs.eraseIdx p)
   rw[if_pos rfl,Int.one_mul,Int.add_zero,Nat.zero_add]
  ·split
   ·rw[hz k (by omega) (by omega),Int.mul_zero]
   ·rw[hz (k+1) (by omega) (by omega),Int.mul_zero];rfl
 | r::rs,cs,i+1,p,h,hp,hn,hi=>by
  have hi':rs[i]? = some v:=by simpa using hi
  have hrv:r≠v:=λe=>(List.nodup_cons.1 hn).1 (e▸List.mem_of_getElem? hi')
  obtain⟨n,hcn⟩:∃ n,cs.length=n+1:=⟨cs.length-1,by omega⟩
  have hrl:rs.length=n:=by simp at h;omega
  have hcp:(cs.eraseIdx p).length=n:=by rw[List.length_eraseIdx,if_pos hp];omega
  rw[List.eraseIdx_cons_succ]
  show alt (cs.set p (aMz v)).length (λk=>((cs.set p (aMz v)).getD k z0) r*aIr rs ((cs.set p (aMz v)).eraseIdx k))=sg (i+1+p)*alt (cs.eraseIdx p).length (λk=>((cs.eraseIdx p).getD k z0) r*aIr (rs.eraseIdx i) ((cs.eraseIdx p).eraseIdx k))
  rw[List.length_set,hcn,hcp,aJf p n _ (by omega),aDw,if_pos ⟨rfl,hp⟩,<-aTo]
  have e0:aMz v r=0:=if_neg hrv
  rw[e0,Int.zero_mul,Int.mul_zero,Int.zero_add]
  refine aGn λk hk=>?_
  by_cases d:k<p
  ·have hl:(cs.eraseIdx k).length=n:=by rw[List.length_eraseIdx,if_pos (by omega)];omega
   rw[if_pos d,aDw,if_neg (by omega),aGl _ d,aNl (by omega) (by omega) (List.nodup_cons.1 hn).2 hi',aNi _ d,getD_erase,if_pos d]
   have hs:sg (i+(p-1))=sg (i+1+p):=by rw[show i+1+p=i+(p-1)+2 by omega,bDt]
   rw[hs,Int.mul_left_comm]
  ·have hl:(cs.eraseIdx (k+1)).length=n:=by rw[List.length_eraseIdx,if_pos (by omega)];omega
   have he:=aNi cs (j:=k+1) (k:=p) (by omega)
   rw[if_neg d,aDw,if_neg (by omega),aGm _ (by omega),aNl (by omega) (by omega) (List.nodup_cons.1 hn).2 hi',<-he,getD_erase,if_neg d,show k+1-1=k by omega]
   have hs:sg (i+1+p)=- sg (i+p):=by rw[show i+1+p=(i+p)+1 by omega];rfl
   rw[hs,Int.mul_left_comm,Int.neg_mul]
def aHp (es:List E) (r c:Int):Int:=if r=c then val es r else-mult es r c
def aIn (es:List E) (vs:List Int):Int:=aIr vs (vs.map λc r=>aHp es r c)
theorem aN2 {es es':List E} (h:es.Perm es') (f:E->Int):aHz es f=aHz es' f:=by
 induction h with
 | nil=>rfl
 | cons x _ ih=>rw[aDb,aDb,ih]
 | swap x y l=>rw[aDb,aDb,aDb,aDb];omega
 | trans _ _ h1 h2=>exact h1.trans h2
theorem aZ0 {es es':List E} (h:es.Perm es'):aHp es=aHp es':=by
 funext r c
 unfold aHp val mult
 rw[aN2 h,aN2 h]
theorem aKx (e:E) (es:List E) (r c:Int):aHp (e::es) r c=(if r=c then aJp r e else-aG0 r c e)+aHp es r c:=by
 unfold aHp val mult
 rw[aDb,aDb]
 split<;>omega
theorem getD_map {α β:Type} (f:α->β) (l:List α) (i:Nat) (d:α) (d':β) (h:i<l.length):(l.map f).getD i d'=f (l.getD i d):=by
 rw[zdG,List.getElem?_map,zdG,zdH h]
 rfl
theorem getD_mem {α:Type} {l:List α} {i:Nat} (d:α) (h:i<l.length):l.getD i d∈l:=by
 rw[zdG,zdH h]
 exact List.getElem_mem h
theorem map_eraseIdx {α β:Type} (f:α->β) (l:List α) (i:Nat):(l.map f).eraseIdx i=(l.eraseIdx i).map f:=by
 apply List.ext_getElem?
 intro k
 simp only[List.getElem?_eraseIdx,List.getElem?_map]
 split<;>rfl
theorem aWq {es es':List E} {vs:List Int} (h:∀ r∈vs,∀ c∈vs,aHp es r c=aHp es' r c):aIn es vs=aIn es' vs:=by
 unfold aIn
 refine aJk (by simp) λi hi r hr=>?_
 rw[List.length_map]at hi
 rw[getD_map _ _ _ (0:Int) _ hi,getD_map _ _ _ (0:Int) _ hi]
 exact h r hr _ (getD_mem _ hi)
theorem aYs {l:List Int} (hn:l.Nodup) {i j:Nat} (hi:i<l.length) (hj:j<l.length) (h:l.getD i 0=l.getD j 0):i=j:=by
 rw[zdG,zdG,zdH hi,zdH hj]at h
 simp only[Option.getD_some]at h
 apply Classical.byContradiction
 intro hne
 rcases Nat.lt_or_gt_of_ne hne with hlt|hlt
 ·exact List.pairwise_iff_getElem.1 hn i j hi hj hlt h
 ·exact List.pairwise_iff_getElem.1 hn j i hj hi hlt h.symm
theorem bCw (e:E) (es:List E) {vs:List Int} {u v:Int} (huv:(e.f0=u/\e.f1=v)∨(e.f0=v/\e.f1=u)) (hn:vs.Nodup) (hv:v∈vs) (hu:u∉vs):aIn (e::es) vs=aIn es vs+aIn es (vs.erase v):=by
 obtain⟨p,hp,hpv⟩:=List.getElem_of_mem hv
 have hpd:vs.getD p 0=v:=by rw[zdG,zdH hp];exact hpv
 have hml:(vs.map λc r=>aHp es r c).length=vs.length:=by simp
 have e1:aIn (e::es) vs=aIr vs ((vs.map λc r=>aHp es r c).set p λr=>(λr=>aHp es r v) r+aMz v r):=by
  unfold aIn
  refine aJk (by simp) λi hi r hr=>?_
  rw[List.length_map]at hi
  rw[getD_map _ _ _ (0:Int) _ hi,aDw,hml]
  have hru:r≠u:=λx=>hu (x▸hr)
  have hcu:vs.getD i 0≠u:=λx=>hu (x▸getD_mem 0 hi)
  by_cases c:i=p
  ·rw[if_pos ⟨c,hp⟩,c,hpd,aKx]
   show _=aHp es r v+(if r=v then 1 else 0)
   by_cases d:r=v
   ·rw[if_pos d,if_pos d,d]
    have:aJp v e=1:=by unfold aJp;rw[if_pos];rcases huv with h|h<;>omega
    omega
   ·rw[if_neg d,if_neg d]
    have:aG0 r v e=0:=by unfold aG0;rw[if_neg];rcases huv with h|h<;>omega
    omega
  ·rw[if_neg (λx=>c x.1),getD_map _ _ _ (0:Int) _ hi,aKx]
   have hcv:vs.getD i 0≠v:=λx=>c (aYs hn hi hp (x.trans hpd.symm))
   generalize vs.getD i 0=w at hcu hcv
   by_cases d:r=w
   ·rw[if_pos d]
    have:aJp r e=0:=by unfold aJp;rw[if_neg];rcases huv with h|h<;>omega
    omega
   ·rw[if_neg d]
    have:aG0 r w e=0:=by unfold aG0;rw[if_neg];rcases huv with h|h<;>omega
    omega
 have e2:(vs.map λc r=>aHp es r c).set p (λr=>aHp es r v)=vs.map λc r=>aHp es r c:=by
  have:=set_self (l:=vs.map λc r=>aHp es r c) z0 (by rw[hml];exact hp)
  rw[getD_map _ _ _ (0:Int) _ hp,hpd]at this
  exact this
 have e3:vs.eraseIdx p=vs.erase v:=by
  rw[List.erase_eq_eraseIdx_of_idxOf]
  rw[<-hpv]
  exact List.Nodup.idxOf_getElem hn p hp
 rw[e1,aMq _ _ (by simp) (by rw[hml];exact hp),e2,aNl (by simp) (by rw[hml];exact hp) hn (i:=p) (by rw[zdH hp,hpv]),bF8,Int.one_mul,map_eraseIdx,e3]
 rfl
theorem aU5 (l:List Int) (f:Int->Int):(l.map λx=>- f x).sum=- (l.map f).sum:=by
 induction l with
 | nil=>rfl
 | cons x l ih=>rw[List.map_cons,List.sum_cons,List.map_cons,List.sum_cons,ih];omega
theorem aQ3 (l:List Int) {f:Int->Int} (h:∀ x∈l,f x=0):(l.map f).sum=0:=by
 induction l with
 | nil=>rfl
 | cons x l ih=>rw[List.map_cons,List.sum_cons,h x List.mem_cons_self,ih λy hy=>h y (List.mem_cons_of_mem _ hy)];rfl
theorem aUx {vs:List Int} (hn:vs.Nodup) {r:Int} (hr:r∈vs):∀ {es:List E},(∀ x∈es,x.f0≠x.f1)->(∀ e∈es,e.f0∈vs↔e.f1∈vs)->(vs.map λc=>aHp es r c).sum=0
 | [],_,_=>aQ3 _ λx _=>by
  unfold aHp val mult
  rw[aU7,aU7]
  split<;>rfl
 | e::es,hl,hf=>by
  have ih:=aUx hn hr (es:=es) (λx hx=>hl x (List.mem_cons_of_mem _ hx)) λx hx=>hf x (List.mem_cons_of_mem _ hx)
  have h0:=hl e List.mem_cons_self
  have h1:=hf e List.mem_cons_self
  have ha:=sum_add vs (λc=>if r=c then aJp r e else-aG0 r c e) (λc=>aHp es r c)
  simp only[<-aKx]at ha
  rw[ha,ih,Int.add_zero]
  have two:∀ x,x≠r->x∈vs->(∀ c,aG0 r c e=if c=x then 1 else 0)->aJp r e=1->(vs.map λc=>if r=c then aJp r e else-aG0 r c e).sum=0:=by
   intro x hx hxv hm hv
   have e1:(vs.map λc=>if r=c then aJp r e else-aG0 r c e)=vs.map λc=>(if r=c then (1:Int) else 0) + - (if x=c then 1 else 0):=by
    refine List.map_congr_left λc _=>?_
    by_cases d:r=c
    ·rw[if_pos d,if_pos d,if_neg (show ¬ x=c by omega),hv];rfl
    ·rw[if_neg d,if_neg d,hm c]
     by_cases d2:c=x
     ·rw[if_pos d2,if_pos d2.symm];rfl
     ·rw[if_neg d2,if_neg (λq=>d2 q.symm)];rfl
   rw[e1,sum_add vs (λc=>if r=c then (1:Int) else 0) (λc=>- (if x=c then 1 else 0)),aU5 vs (λc=>if x=c then 1 else 0),aN0 r vs hn,aN0 x vs hn,if_pos hr,if_pos hxv]
   rfl
  by_cases a:e.f0=r
  ·refine two e.f1 (by omega) (h1.1 (a▸hr)) (λc=>?_) (by unfold aJp;rw[if_pos (.inl a)])
   unfold aG0
   by_cases d:c=e.f1
   ·rw[if_pos d,if_pos (.inl ⟨a,d.symm⟩)]
   ·rw[if_neg d,if_neg (by omega)]
  ·by_cases b:e.f1=r
   ·refine two e.f0 a (h1.2 (b▸hr)) (λc=>?_) (by unfold aJp;rw[if_pos (.inr b)])
    unfold aG0
    by_cases d:c=e.f0
    ·rw[if_pos d,if_pos (.inr ⟨d.symm,b⟩)]
    ·rw[if_neg d,if_neg (by omega)]
   ·refine aQ3 _ λc _=>?_
    have e1:aJp r e=0:=by unfold aJp;rw[if_neg (by omega)]
    have e2:aG0 r c e=0:=by unfold aG0;rw[if_neg (by omega)]
    rw[e1,e2]
    split<;>rfl
theorem bCv {es:List E} {vs:List Int} (hl:∀ x∈es,x.f0≠x.f1) (hn:vs.Nodup) (hv:vs≠[]) (hf:∀ e∈es,e.f0∈vs↔e.f1∈vs):aIn es vs=0:=by
 cases vs with
 | nil=>exact absurd rfl hv
 | cons v vs =>
  have hc:=aRm (rs:=v::vs) (cs:=(v::vs).map λc r=>aHp es r c) (p:=0) (by simp) (by simp) ((List.range vs.length).map λj=>(-1,j+1)) (λx hx=>by
   obtain⟨j,hj,rfl⟩:=List.mem_map.1 hx
   have:=List.mem_range.1 hj
   simp
   omega)
  rw[<-hc]
  unfold aIn
  refine aJk (by simp) λi hi r hr=>?_
  rw[List.length_map]at hi
  rw[aDw]
  by_cases c:i=0
  ·rw[if_pos ⟨c,by simp⟩,c,getD_map _ _ _ (0:Int) _ (by simp)]
   have hs:=aUx hn hr hl hf
   rw[List.map_cons,List.sum_cons]at hs
   show aHp es r v=_
   have e1:(((List.range vs.length).map λj=>((-1:Int),j+1)).map λx=>x.1*(((v::vs).map λc r=>aHp es r c).getD x.2 z0) r)=vs.map λc=>- aHp es r c:=by
    rw[List.map_map]
    apply List.ext_getElem (by simp)
    intro j h1 h2
    have hj:j<vs.length:=by simpa using h2
    simp[List.getD,hj]
   rw[e1,aU5 vs (λc=>aHp es r c)]
   omega
  ·rw[if_neg (λx=>c x.1)]
theorem aV9:Rec 1 aIn where
 perm:=λh=>by unfold aIn;rw[aZ0 h]
 nil:=rfl
 loop:=λe es vs _ h0 h1=>by
  rw[Int.one_mul]
  refine aWq λr hr c hc=>?_
  rw[aKx]
  have a:e.f0≠r:=λx=>h0 (x▸hr)
  have b:e.f1≠r:=λx=>h1 (x▸hr)
  have e1:aJp r e=0:=by unfold aJp;rw[if_neg (by omega)]
  have e2:aG0 r c e=0:=by unfold aG0;rw[if_neg (by omega)]
  rw[e1,e2]
  split<;>omega
 cut:=λe es vs u v huv _ hn hv hu=>bCw e es huv hn hv hu
 far:=λes vs hl hn hv hf=>bCv hl hn hv hf
end Cf
namespace Cf
open P
def Mod (l:List Int):Prop:=∀ x∈l,-1000000000<=x/\x<=1000000000
theorem aWd (l:List Int) (hl:l.length<=1048576) (hm:Mod l):∀ (d i:Nat) (a:Int),i+d=l.length→-(1000000000*(i:Int))<=a->a<=1000000000*(i:Int)->Ep (λk=>aCs.l0 k a l (l.length:Int) (i:Int)) (·=a+(l.drop i).sum):=by
 intro d
 induction d with
 | zero =>
  intro i a hi h0 h1
  refine Ep.up ?_
  simp only[aCs.l0]
  refine Ep.neg (by omega) (Ep.now ?_)
  rw[List.drop_of_length_le (by omega)]
  simp
 | succ d ih =>
  intro i a hi h0 h1
  have hlt:i<l.length:=by omega
  have hx:=hm _ (List.getElem_mem hlt)
  refine Ep.up ?_
  simp only[aCs.l0]
  refine Ep.pos (by omega) (Ep.pos (by omega) (Ep.pos (by omega) ?_))
  rw[aEc hlt,wrap_succ (by omega),aCk (by omega) (by omega),List.drop_eq_getElem_cons hlt]
  refine(ih (i+1) _ (by omega) (by omega) (by omega)).mono ?_
  rintro _ rfl
  rw[List.sum_cons]
  omega
theorem bFx (l:List Int) (hl:l.length<=1048576) (hm:Mod l):Ep (λk=>aCs.f k l) (·=l.sum):=by
 simp only[aCs.f]
 refine(aWd l hl hm l.length 0 0 (by omega) (by omega) (by omega)).mono ?_
 rintro _ rfl
 simp
def aJy (n:Int) (es:List E) (q:Int) (i:Nat):Int:=if(i:Int)=q then 0 else aOw n es i-1
def aIp (n:Int) (es:List E) (q:Int):List Int:=(List.range n.toNat).map (aJy n es q)
def aEg (n:Int) (es:List E) (q:Int):List Int:=if gOk n es=true/\0<=q/\q<n then aIp n es q else []
theorem aXq {n:Int} {es:List E} {v:Int}:0<=aOw n es v/\aOw n es v<=es.length:=by
 unfold aOw
 split
 ·exact⟨aHy es v,aPy es v⟩
 ·omega
theorem aT6 (n:Nat) (es:List E) (q:Int) (hn:n<=6) (hel:es.length<=12):∀ (d i:Nat) (x:List Int),i+d=n->x.length=n->(∀ j,j<i->x[j]? = (aIp n es q)[j]?)->(∀ j,i<=j->j<n->x[j]? = some 0)->Ep (λk=>aBf.l0 k q x (n:Int) (i:Int) (n:Int) es) (·=aIp n es q):=by
 intro d
 have hL:(aIp n es q).length=n:=by simp[aIp]
 have hget:∀ j,j<n->(aIp n es q)[j]? = some (aJy n es q j):=λj hj=>by simp[aIp,hj]
 induction d with
 | zero =>
  intro i x hi hx hd _
  refine Ep.up ?_
  simp only[aBf.l0]
  refine Ep.neg (by omega) (Ep.now ?_)
  apply List.ext_getElem?
  intro j
  by_cases hj:j<i
  ·exact hd j hj
  ·rw[List.getElem?_eq_none (by omega),List.getElem?_eq_none (by omega)]
 | succ d ih =>
  intro i x hi hx hd hz
  refine Ep.up ?_
  simp only[aBf.l0]
  rw[wrap_succ (by omega)]
  refine Ep.pos (by omega) (Ep.ite (λh=>?_) (λh=>?_))
  ·refine ih (i+1) x (by omega) hx ?_ (λj hj=>hz j (by omega))
   intro j hj
   by_cases e:j=i
   ·subst e
    rw[hz j (Nat.le_refl _) (by omega),hget j (by omega)]
    unfold aJy
    rw[if_pos h]
   ·exact hd j (by omega)
  ·refine Ep.bind (aGh n es i (by omega)) ?_
   rintro _ rfl
   have:=aXq (n:=n) (es:=es) (v:=i)
   rw[aCk (x:=aOw (n:Int) es i-1) (by omega) (by omega),Int.toNat_natCast]
   refine Ep.pos (by omega) (Ep.pos (by omega) (ih (i+1) _ (by omega) (by simpa using hx) ?_ ?_))
   ·intro j hj
    by_cases e:i=j
    ·subst e
     rw[List.getElem?_set_self (by omega),hget i (by omega)]
     unfold aJy
     rw[if_neg h]
    ·rw[List.getElem?_set_ne e]
     exact hd j (by omega)
   ·intro j hj hjn
    rw[List.getElem?_set_ne (by omega)]
    exact hz j (by omega) hjn
theorem aPf (n:Int) (es:List E) (q:Int) (hn:Wf .i64 n):Ep (λk=>aBf.f k n es q) (·=aEg n es q):=by
 simp only[aBf.f]
 refine Ep.aEr (aH2 n es q hn) ?_
 refine Ep.ite (λh=>?_) (λh=>Ep.now ?_)
 ·have h':gOk n es=true/\0<=q/\q<n:=by simpa using h
  have hG1:=(aPg h'.1).1
  unfold aHx at hG1
  unfold aEg
  rw[if_pos h']
  obtain⟨m,rfl⟩:=Int.eq_ofNat_of_zero_le (a:=n) (by omega)
  refine Ep.pos (by omega) (Ep.pos (by simp;omega) (Ep.aEr rfl ?_))
  have:=aT6 m es q (by omega) hG1.2.2.1 m 0 (List.replicate m 0) (by omega) (by simp) (λj hj=>by omega) (λj _ hj=>by simp[hj])
  simpa using this
 ·unfold aEg
  rw[if_neg (λx=>h (by rw[x.1];simpa using x.2))]
theorem aW3 {n:Nat} {f g:Int->Int} (h:∀ w:Int,0<=w->w<n->f w=g w):aMa n f=aMa n g:=((aEy n f).congr h).eq
def aP6 (a b:List Int):List Int:=aMa a.length λw=>rd a w+rd b w
def minL (a b:List Int):List Int:=aMa a.length λw=>rd a w-rd b w
def bDw (a:List Int):List Int:=aMa a.length λw=>- rd a w
theorem aP5 {a b:List Int} (h:a.length=b.length):aP6 a (bDw b)=minL a b:=by
 unfold aP6 minL
 refine aW3 λw h0 h1=>?_
 have:rd (bDw b) w=- rd b w:=(aEy b.length _).2 w h0 (by omega)
 rw[this]
 omega
theorem aT3 (a b:List Int) (n:Nat) (hn:n<=1048576) (ha:a.length=n) (hb:b.length=n) (ba:Bd a 1000000000) (bb:Bd b 1000000000):∀ (d i:Nat) (x:List Int),i+d=n->Rep n x (λw=>if w<i then rd a w+rd b w else rd a w)->Ep (λk=>aC0.l0 k b x (n:Int) (i:Int)) (·=aP6 a b):=by
 intro d
 induction d with
 | zero =>
  intro i x hi hx
  obtain rfl:i=n:=by omega
  refine Ep.up ?_
  simp only[aC0.l0]
  refine Ep.neg (by omega) (Ep.now ?_)
  unfold aP6
  rw[ha]
  exact(hx.congr λw _ w1=>by rw[if_pos w1]).eq
 | succ d ih =>
  intro i x hi hx
  have hxl:=hx.1
  have h1:=ba i (by omega) (by omega)
  have h2:=bb i (by omega) (by omega)
  have hxi:rd x (i:Int)=rd a (i:Int):=by
   have h9:=hx.2 i (by omega) (by omega)
   simp only[if_neg (show ¬ (i:Int)<i by omega)]at h9
   exact h9
  refine Ep.up ?_
  simp only[aC0.l0]
  refine Ep.pos (by omega) (Ep.pos (by omega) (Ep.pos (by omega) (Ep.pos (by omega) ?_)))
  rw[wrap_succ (by omega),hxi,aCk (by omega) (by omega)]
  refine ih (i+1) _ (by omega) ((hx.set (v:=(i:Int)) (by omega) (by omega) _).congr λw _ _=>?_)
  by_cases e:w=i
  ·rw[if_pos e,if_pos (by omega),e]
  ·rw[if_neg e]
   by_cases e2:w<i
   ·rw[if_pos e2,if_pos (by omega)]
   ·rw[if_neg e2,if_neg (by omega)]
theorem aPe (a b:List Int) (hl:a.length<=1048576) (hab:a.length=b.length) (ba:Bd a 1000000000) (bb:Bd b 1000000000):Ep (λk=>aC0.f k a b) (·=aP6 a b):=by
 simp only[aC0.f]
 refine Ep.aEr (copy_eq a hl) ?_
 exact aT3 a b a.length hl rfl hab.symm ba bb a.length 0 a (by omega) ((Rep.self rfl).congr λw w0 _=>by rw[if_neg (by omega)])
theorem aWg (a:List Int) (n:Nat) (hn:n<=1048576) (ha:a.length=n) (ba:Bd a 1000000000):∀ (d i:Nat) (x:List Int),i+d=n->Rep n x (λw=>if w<i then-rd a w else rd a w)->Ep (λk=>aAv.l0 k x (n:Int) (i:Int)) (·=bDw a):=by
 intro d
 induction d with
 | zero =>
  intro i x hi hx
  obtain rfl:i=n:=by omega
  refine Ep.up ?_
  simp only[aAv.l0]
  refine Ep.neg (by omega) (Ep.now ?_)
  unfold bDw
  rw[ha]
  exact(hx.congr λw _ w1=>by rw[if_pos w1]).eq
 | succ d ih =>
  intro i x hi hx
  have hxl:=hx.1
  have h1:=ba i (by omega) (by omega)
  have hxi:rd x (i:Int)=rd a (i:Int):=by
   have h9:=hx.2 i (by omega) (by omega)
   simp only[if_neg (show ¬ (i:Int)<i by omega)]at h9
   exact h9
  refine Ep.up ?_
  simp only[aAv.l0]
  refine Ep.pos (by omega) (Ep.pos (by omega) (Ep.pos (by omega) ?_))
  rw[wrap_succ (by omega),hxi,aCk (by omega) (by omega)]
  refine ih (i+1) _ (by omega) ((hx.set (v:=(i:Int)) (by omega) (by omega) _).congr λw _ _=>?_)
  by_cases e:w=i
  ·rw[if_pos e,if_pos (by omega),e]
  ·rw[if_neg e]
   by_cases e2:w<i
   ·rw[if_pos e2,if_pos (by omega)]
   ·rw[if_neg e2,if_neg (by omega)]
theorem aT4 (a:List Int) (hl:a.length<=1048576) (ba:Bd a 1000000000):Ep (λk=>aAv.f k a) (·=bDw a):=by
 simp only[aAv.f]
 refine Ep.aEr (copy_eq a hl) ?_
 exact aWg a a.length hl rfl ba a.length 0 a (by omega) ((Rep.self rfl).congr λw w0 _=>by rw[if_neg (by omega)])
theorem aPa (a:List Int):(bDw a).length=a.length:=by simp[bDw,aHb]
theorem aKu (a b:List Int):(minL a b).length=a.length:=by simp[minL,aHb]
theorem aSw {a:List Int} {B:Int} (h:Bd a B):Bd (bDw a) B:=(aEy a.length _).bd λw h0 h1=>by have:=h w h0 h1;omega
theorem bFr {a b:List Int} {A B:Int} (hab:a.length=b.length) (ha:Bd a A) (hb:Bd b B):Bd (minL a b) (A+B):=(aEy a.length _).bd λw h0 h1=>by have:=ha w h0 h1;have:=hb w h0 (by omega);omega
theorem bCt (x0 x1:List Int) (h:x0.length<=1048576) (hl:x0.length=x1.length):∀ (d i:Nat),i+d=x0.length->(∀ j,j<i->x0[j]? = x1[j]?)->Ep (λk=>aB4.l0 k x0 x1 (x0.length:Int) (i:Int)) (·=decide (x0=x1)):=by
 intro d
 induction d with
 | zero =>
  intro i hi hx
  refine Ep.up ?_
  simp only[aB4.l0]
  refine Ep.neg (by omega) (Ep.now ?_)
  have:x0=x1:=by
   apply List.ext_getElem?
   intro j
   by_cases hj:j<i
   ·exact hx j hj
   ·rw[List.getElem?_eq_none (by omega),List.getElem?_eq_none (by omega)]
  simp[this]
 | succ d ih =>
  intro i hi hx
  refine Ep.up ?_
  simp only[aB4.l0]
  refine Ep.pos (by omega) (Ep.pos (by omega) (Ep.pos (by omega) (Ep.pos (by omega) ?_)))
  rw[aEc (show i<x0.length by omega),aEc (show i<x1.length by omega),wrap_succ (by omega)]
  refine Ep.ite (λe=>?_) (λe=>Ep.now ?_)
  ·refine ih (i+1) (by omega) ?_
   intro j hj
   by_cases ej:j=i
   ·subst ej
    rw[zdH (by omega),zdH (by omega),e]
   ·exact hx j (by omega)
  ·have:x0≠x1:=by
    rintro rfl
    exact e rfl
   simp[this]
theorem bCg (x0 x1:List Int) (h:x0.length<=1048576):Ep (λk=>aDa.f k x0 x1) (·=decide (x0=x1)):=by
 simp only[aDa.f,aB4.f]
 refine Ep.bind (P:=(·=decide (x0=x1))) ?_ ?_
 ·refine Ep.ite (λe=>bCt x0 x1 h (by omega) x0.length 0 (by omega) (λj hj=>by omega)) (λe=>Ep.now ?_)
  have:x0≠x1:=by
   rintro rfl
   exact e rfl
  simp[this]
 ·rintro _ rfl
  exact Ep.now rfl
def aH1 (n:Nat) (es:List E) (r:Int):List Int:=aMa n λc=>aHp es r c
def aPc (n:Nat) (es:List E):List (List Int):=(List.range n).map λr:Nat=>aH1 n es (r:Int)
theorem aKy (n:Nat) (es:List E):(aPc n es).length=n:=by simp[aPc]
theorem bFv {es:List E} (hel:es.length<=12) (r c:Int):-12<=aHp es r c/\aHp es r c<=12:=by
 have h1:=aHy es r
 have h2:=aPy es r
 have h3:=aFe es r c
 have h4:=aJ7 es r c
 unfold aHp
 split<;>omega
theorem aWi {n:Nat} {es:List E} (hes:∀ e∈es,EOk n e) (hel:es.length<=12) (hn:n<=6) {M:List (List Int)} (hM:M.length<=6) {v:Nat} (hv:v<n) {Q:List (List Int)->Prop}
  (hQ:Ep (λk=>aAr.l0 k (M++[aH1 n es (v:Int)]) ((v+1:Nat):Int) (n:Int) es) Q):∀ (d i:Nat) (x:List Int),i+d=n->Rep n x (λw=>if w<i then-mult es (v:Int) w else 0) ->
  Ep (λk=>aAr.l1 k M (v:Int) x (n:Int) (i:Int) (n:Int) es) Q:=by
 intro d
 induction d with
 | zero =>
  intro i x hi hx
  refine Ep.up ?_
  simp only[aAr.l1]
  refine Ep.neg (by omega) (Ep.bind (aGh _ es _ (by omega)) ?_)
  rintro _ rfl
  refine Ep.pos (by omega) (Ep.pos (by have:=hx.1;omega) (Ep.pos (by omega) ?_))
  have e:x.set ((v:Int)).toNat (aOw (n:Int) es (v:Int))=aH1 n es (v:Int):=((hx.set (v:=(v:Int)) (by omega) (by omega) _).congr λw w0 w1=>by
   unfold aHp
   by_cases c:w=v
   ·rw[if_pos c,if_pos c.symm,aHm ⟨by omega,by omega⟩]
   ·rw[if_neg c,if_pos (by omega),if_neg (λq=>c q.symm)]).eq
  rw[e,wrap_succ (by omega)]
  exact hQ
 | succ d ih =>
  intro i x hi hx
  refine Ep.up ?_
  simp only[aAr.l1]
  refine Ep.pos (by omega) (Ep.bind (aV3 _ es hes hel _ _ ⟨by omega,by omega⟩ ⟨by omega,by omega⟩) ?_)
  rintro _ rfl
  have hm0:=aFe es (v:Int) (i:Int)
  have hm1:=aJ7 es (v:Int) (i:Int)
  refine Ep.pos (by omega) (Ep.pos (by have:=hx.1;omega) ?_)
  rw[aCk (by omega) (by omega),wrap_succ (by omega)]
  refine ih (i+1) _ (by omega) ((hx.set (v:=(i:Int)) (by omega) (by omega) _).congr λw w0 w1=>?_)
  by_cases c:w=i
  ·rw[if_pos c,if_pos (by omega),c]
  ·rw[if_neg c]
   by_cases c2:w<i
   ·rw[if_pos c2,if_pos (by omega)]
   ·rw[if_neg c2,if_neg (by omega)]
theorem aR2 {n:Nat} (es:List E) {v:Nat} (hv:v<n):(aPc n es).take (v+1)=(aPc n es).take v++[aH1 n es (v:Int)]:=by
 rw[List.take_succ_eq_append_getElem (by rw[aKy];exact hv)]
 simp[aPc]
theorem aWj {n:Nat} {es:List E} (hes:∀ e∈es,EOk n e) (hel:es.length<=12) (hn:n<=6):∀ (d v:Nat),v+d=n->Ep (λk=>aAr.l0 k ((aPc n es).take v) (v:Int) (n:Int) es) (·=aPc n es):=by
 intro d
 induction d with
 | zero =>
  intro v hv
  refine Ep.up ?_
  simp only[aAr.l0]
  refine Ep.neg (by omega) (Ep.now ?_)
  rw[List.take_of_length_le (by rw[aKy];omega)]
 | succ d ih =>
  intro v hv
  have h1:=ih (v+1) (by omega)
  rw[aR2 es (by omega)]at h1
  refine Ep.up ?_
  simp only[aAr.l0]
  refine Ep.pos (by omega) (Ep.pos (by omega) (Ep.pos (by omega) (Ep.aEr rfl ?_)))
  rw[Int.toNat_natCast,List.length_replicate]
  exact aWi hes hel hn (by rw[List.length_take];omega) (by omega) h1 n 0 _ (by omega) ((Rep.zero n).congr λw w0 w1=>by rw[if_neg (by omega)])
theorem bG1 {n:Nat} {es:List E} (hg:GOk (n:Int) es):Ep (λk=>aAr.f k (n:Int) es) (·=aPc n es):=by
 have hG:=hg.1
 unfold aHx at hG
 simp only[aAr.f]
 refine Ep.aEr (aJa _ _) ?_
 rw[aE8.2 hg]
 refine Ep.pos rfl ?_
 have:=aWj (n:=n) hG.2.2.2 hG.2.2.1 (by omega) n 0 (by omega)
 simpa using this
def vsL (n q:Nat):List Int:=((List.range n).eraseIdx q).map λi:Nat=>(i:Int)
theorem aIw (n q:Nat):(vsL n q).Nodup:=by
 unfold vsL
 refine List.Pairwise.map _ (λa b h=>?_) ((List.nodup_range (n:=n)).sublist (List.eraseIdx_sublist _ _))
 omega
theorem aFi {n q:Nat} (hq:q<n) {v:Int}:v∈vsL n q↔(0<=v/\v<n)/\v≠q:=by
 unfold vsL
 rw[List.mem_map]
 constructor
 ·rintro⟨i,hi,rfl⟩
  rw[List.mem_eraseIdx_iff_getElem]at hi
  obtain⟨j,hj,hjq,hje⟩:=hi
  simp at hj hje
  omega
 ·rintro⟨⟨h0,h1⟩,h2⟩
  refine⟨v.toNat,?_,by omega⟩
  rw[List.mem_eraseIdx_iff_getElem]
  exact⟨v.toNat,by simp;omega,by omega,by simp⟩
theorem aK1 {n q:Nat} (hq:q<n):(vsL n q).length=n-1:=by
 unfold vsL
 rw[List.length_map,List.length_eraseIdx,if_pos (by simpa using hq),List.length_range]
def aUj (n:Nat) (es:List E) (q:Nat):List (List Int):=(vsL n q).map λr=>(vsL n q).map λc=>aHp es r c
theorem bBu {n q:Nat} (hq:q<n) (es:List E):(aUj n es q).length=n-1:=by unfold aUj;rw[List.length_map,aK1 hq]
theorem aOg (q:Nat) (L:List (List Int)):∀ i,i<=L.length->aHr q L i=((L.take i).eraseIdx q).map λr=>r.eraseIdx q
 | 0,_=>by simp[aHr]
 | i+1,h=>by
  have hi:i<L.length:=by omega
  have ih:=aOg q L i (by omega)
  unfold aHr
  have hl:(L.take i).length=i:=by rw[List.length_take];omega
  rw[List.take_succ_eq_append_getElem hi]
  by_cases c:i=q
  ·rw[if_pos c,ih,List.eraseIdx_append_of_length_le (by omega),hl,show q-i=0 by omega,List.eraseIdx_of_length_le (l:=L.take i) (by omega)]
   simp
  ·rw[if_neg c,ih]
   have hg:L.getD i []=L[i]:=by simp[List.getD,hi]
   rw[hg]
   by_cases d:q<i
   ·rw[List.eraseIdx_append_of_lt_length (by omega)]
    simp
   ·rw[List.eraseIdx_append_of_length_le (by omega),List.eraseIdx_of_length_le (l:=L.take i) (by omega),List.eraseIdx_of_length_le (l:=[L[i]]) (by simp;omega),List.map_append]
    rfl
theorem aUz {n q:Nat} (es:List E):aHr q (aPc n es) (aPc n es).length=aUj n es q:=by
 rw[aOg q _ _ (Nat.le_refl _),List.take_length]
 unfold aPc aUj vsL aH1 aMa
 rw[map_eraseIdx,List.map_map]
 show _=(((List.range n).eraseIdx q).map λi:Nat=>(i:Int)).map _
 rw[List.map_map]
 refine List.map_congr_left λr _=>?_
 show ((List.range n).map λc:Nat=>aHp es (r:Int) (c:Int)).eraseIdx q=(((List.range n).eraseIdx q).map λi:Nat=>(i:Int)).map _
 rw[map_eraseIdx,List.map_map]
 rfl
theorem bK0 {n:Nat} {es:List E} (hg:GOk (n:Int) es) {q:Nat} (hq:q<n):Ep (λk=>aCh.f k (n:Int) es (q:Int)) (·=aUj n es q):=by
 have hG:=hg.1
 unfold aHx at hG
 simp only[aCh.f]
 refine Ep.aEr (aH2 (n:Int) es _ (by simp[Wf,Lit.wf,IntKind.min,IntKind.max,IntKind.signed,IntKind.bits];omega)) ?_
 refine Ep.pos (by rw[aE8.2 hg];simp;omega) ?_
 refine Ep.bind (bG1 hg) ?_
 rintro _ rfl
 have e:bB3 (q:Int) (aPc n es)=some (aUj n es q):=by
  unfold bB3
  rw[if_pos,Int.toNat_natCast,aUz]
  refine⟨by omega,by omega,by rw[aKy];omega,λr hr=>?_⟩
  unfold aPc at hr
  obtain⟨i,_,rfl⟩:=List.mem_map.1 hr
  unfold aH1
  rw[aHb]
  omega
 exact Ep.congr (λ_=>e) (Ep.now rfl)
def aS5 (m:Nat) (M:List (List Int)):Prop:=M.length=m/\(∀ r∈M,r.length=m)/\∀ r∈M,∀ x∈r,-12<=x/\x<=12
theorem bJ5 {l:List Int} (h:∀ x∈l,-12<=x/\x<=12) (i:Int):-12<=rd l i/\rd l i<=12:=by
 unfold rd
 by_cases c:i.toNat<l.length
 ·rw[zdG,zdH c]
  exact h _ (List.getElem_mem c)
 ·rw[zdG,List.getElem?_eq_none (by omega)]
  simp
theorem aS5.ent {m:Nat} {M:List (List Int)} (h:aS5 m M) (r c:Int):-12<=ent M r c/\ent M r c<=12:=by
 unfold Cf.ent
 by_cases d:r.toNat<M.length
 ·rw[zdG,zdH d]
  exact bJ5 (h.2.2 _ (List.getElem_mem d)) c
 ·rw[zdG,List.getElem?_eq_none (by omega)]
  simp[rd]
theorem bE6 {m:Nat} {M:List (List Int)} (h:aS5 m M) {rs cs:List Int} (hr:rs.length<=5) (hc:cs.length<=6):-1934917632<=aIq M rs cs/\aIq M rs cs<=1934917632:=by
 have h1:=aZo (B:=12) (by omega) h.ent rs cs hc
 have h2:((6*12:Int))^rs.length<=1934917632:=by
  match hl:rs.length,hr with
  | 0,_=>decide
  | 1,_=>decide
  | 2,_=>decide
  | 3,_=>decide
  | 4,_=>decide
  | 5,_=>decide
 omega
theorem aRr (n:Nat) (g:Nat->Int) (p:Nat):alt (n+1) (λi=>g (p+i))=g p-alt n (λi=>g (p+1+i)):=by
 show g (p+0)-_=_
 rw[Nat.add_zero]
 congr 1
 exact aGn λi _=>by show g (p+(i+1))=_;rw[show p+(i+1)=p+1+i by omega]
theorem aWl {m:Nat} (hm:m<=5) {M:List (List Int)} (hM:aS5 m M) {r:Int} {rs:List Int} (hr:0<=r/\r<m) (hrs:rs.length<=4) {b:Nat} (hb:b<2^m)
  (ih:∀ b':Nat,b'<2^m->Ep (λk=>aAk.f k M rs (b':Int)) (·=aIq M rs (aG9 b'))) :
  ∀ (d c:Nat) (s σ:Int),c+d=m->(σ=1∨σ=-1)->(-(c*23219011584:Int)<=s/\s<=c*23219011584) ->
   Ep (λk=>aAk.l0 k M (r::rs) (b:Int) s σ (aBt M r) (m:Int) (c:Int))
    (·=s+σ*alt ((aG9 b).length-(aHt b c).length) λi=>ent M r ((aG9 b).getD ((aHt b c).length+i) 0)*aIq M rs ((aG9 b).eraseIdx ((aHt b c).length+i))):=by
 have h32:(2:Nat)^m<=32:=by
  have:=Nat.pow_le_pow_right (show 0<2 by omega) hm
  omega
 have hrow:(aBt M r).length=m:=by
  unfold aBt
  rw[zdG,zdH (by have:=hM.1;omega)]
  exact hM.2.1 _ (List.getElem_mem _)
 intro d
 induction d with
 | zero =>
  intro c s σ hc hσ hs
  refine Ep.up ?_
  simp only[aAk.l0]
  refine Ep.neg (by omega) (Ep.now ?_)
  have e:=bLu ⟨b,by omega⟩ ⟨c,by omega⟩ (by simp;rw[show c=m by omega];exact hb)
  simp only at e
  rw[e,Nat.sub_self]
  simp[alt]
 | succ d ihd =>
  intro c s σ hc hσ hs
  refine Ep.up ?_
  simp only[aAk.l0]
  refine Ep.pos (by omega) (Ep.pos (by omega) (Ep.pos (by omega) ?_))
  rw[wrap_succ (by omega)]
  have hsu:=aOm b c
  rcases bE9 ⟨b,by omega⟩ ⟨c,by omega⟩ with ⟨b1,b2⟩|⟨b1,b2⟩
  ·simp only at b1 b2
   rw[if_pos b2]at hsu
   obtain⟨m',e1,e2,e3,e4⟩:=bGy ⟨b,by omega⟩ ⟨c,by omega⟩ b2
   simp only at e1 e2 e3 e4
   have hp:(aHt b c).length<(aG9 b).length:=by
    rw[List.getElem?_eq_some_iff]at e3
    exact e3.1
   have hg:(aG9 b).getD (aHt b c).length 0=(c:Int):=by rw[zdG,e3];rfl
   have hl1:(aHt b (c+1)).length=(aHt b c).length+1:=by rw[hsu];simp
   have hsplit:(aG9 b).length-(aHt b c).length=((aG9 b).length-(aHt b (c+1)).length)+1:=by omega
   have hent:rd (aBt M r) (c:Int)=ent M r (c:Int):=rfl
   have hbd:=hM.ent r (c:Int)
   have hdb:=bE6 hM (rs:=rs) (cs:=aG9 m'.val) (by omega) (by have:=aRp m'.val 6;exact this)
   rw[hsplit,aRr _ (λi=>ent M r ((aG9 b).getD i 0)*aIq M rs ((aG9 b).eraseIdx i)),hg,<-e2,<-hl1]
   refine Ep.neg (by rw[b1];omega) ?_
   rw[hent]
   by_cases hz:ent M r (c:Int)=0
   ·refine Ep.pos hz ?_
    have hneg:wrap64 (-σ)=-σ:=aCk (by omega) (by omega)
    rw[hneg]
    refine(ihd (c+1) s (-σ) (by omega) (by omega) (by omega)).mono λv hv=>?_
    rw[hv,hz,Int.zero_mul,Int.zero_sub,Int.mul_neg,Int.neg_mul]
   ·refine Ep.neg hz (Ep.pos (by rw[List.length_cons];omega) ?_)
    rw[e1]
    refine Ep.bind (ih m'.val (by omega)) ?_
    rintro _ rfl
    have hneg:wrap64 (-σ)=-σ:=aCk (by omega) (by omega)
    have hprod:=aYu hbd hdb
    have e5:wrap64 (σ*ent M r (c:Int))=σ*ent M r (c:Int):=by
     rcases hσ with rfl|rfl
     ·exact aCk (by omega) (by omega)
     ·exact aCk (by omega) (by omega)
    have e6:σ*ent M r (c:Int)*aIq M rs (aG9 m'.val)=σ*(ent M r (c:Int)*aIq M rs (aG9 m'.val)):=Int.mul_assoc _ _ _
    have hb2:-(23219011584:Int)<=σ*(ent M r (c:Int)*aIq M rs (aG9 m'.val))/\σ*(ent M r (c:Int)*aIq M rs (aG9 m'.val))<=23219011584:=by
     rcases hσ with rfl|rfl<;>omega
    rw[e5,e6]
    have e7:wrap64 (σ*(ent M r (c:Int)*aIq M rs (aG9 m'.val)))=σ*(ent M r (c:Int)*aIq M rs (aG9 m'.val)):=aCk (by omega) (by omega)
    have e8:wrap64 (s+σ*(ent M r (c:Int)*aIq M rs (aG9 m'.val)))=s+σ*(ent M r (c:Int)*aIq M rs (aG9 m'.val)):=aCk (by omega) (by omega)
    rw[e7,e8,hneg]
    refine(ihd (c+1) _ (-σ) (by omega) (by omega) (by omega)).mono λv hv=>?_
    rw[hv,Int.mul_sub,Int.neg_mul]
    omega
  ·simp only at b1 b2
   have b2':¬ b.testBit c=true:=by simpa using b2
   rw[if_neg b2',List.append_nil]at hsu
   refine Ep.pos b1 ?_
   have h:=ihd (c+1) s σ (by omega) hσ (by omega)
   rw[hsu]at h
   exact h
theorem aZ8 {m:Nat} (hm:m<=5) {M:List (List Int)} (hM:aS5 m M):∀ (rs:List Int),rs.length<=5->(∀ r∈rs,0<=r/\r<(m:Int))->∀ b:Nat,b<2^m->Ep (λk=>aAk.f k M rs (b:Int)) (·=aIq M rs (aG9 b))
 | [],_,_,b,_=>by
  refine Ep.up ?_
  simp only[aAk.f]
  exact Ep.pos rfl (Ep.now rfl)
 | r::rs,hl,hr,b,hb=>by
  have hr0:=hr r List.mem_cons_self
  have hrow:(aBt M r).length=m:=by
   unfold aBt
   rw[zdG,zdH (by have:=hM.1;omega)]
   exact hM.2.1 _ (List.getElem_mem _)
  have ih:=aZ8 hm hM rs (by simp at hl;omega) (λx hx=>hr x (List.mem_cons_of_mem _ hx))
  refine Ep.up ?_
  simp only[aAk.f]
  have e:rd (r::rs) 0=r:=rfl
  refine Ep.neg (by rw[List.length_cons];omega) (Ep.pos (by rw[List.length_cons];omega) (Ep.pos (by rw[e];exact hr0.1) (Ep.pos (by rw[e,hM.1];exact hr0.2) ?_)))
  rw[e,hrow]
  refine(aWl hm hM hr0 (by simp at hl;omega) hb ih m 0 0 1 (by omega) (Or.inl rfl) (by omega)).mono λv hv=>?_
  rw[hv,show (aHt b 0).length=0 from rfl]
  simp only[Nat.sub_zero,Nat.zero_add,Int.zero_add,Int.one_mul]
  rfl
theorem aWh {m:Nat} (hm:m<=5) {M:List (List Int)} (hM:aS5 m M):∀ (d i:Nat),i+d=m->Ep (λk=>aBv.l0 k M M (m:Int) (i:Int)) (·=true):=by
 intro d
 induction d with
 | zero =>
  intro i hi
  refine Ep.up ?_
  simp only[aBv.l0]
  exact Ep.neg (by omega) (Ep.now rfl)
 | succ d ih =>
  intro i hi
  have hml:=hM.1
  have hlt:i<M.length:=by omega
  have e:aBt M (i:Int)=M[i]:=by
   unfold aBt
   rw[Int.toNat_natCast,zdG,zdH hlt]
   rfl
  have h1:=hM.2.1 _ (List.getElem_mem hlt)
  have h2:=hM.2.2 _ (List.getElem_mem hlt)
  refine Ep.up ?_
  simp only[aBv.l0]
  refine Ep.pos (by omega) (Ep.pos (by omega) (Ep.pos (by omega) (Ep.pos (by rw[e];omega) ?_)))
  rw[e]
  refine Ep.bind (aM6 _ _ _ (by omega)) ?_
  rintro _ rfl
  refine Ep.pos (zdY λx hx=>by have:=h2 x hx;omega) ?_
  rw[wrap_succ (by omega)]
  exact ih (i+1) (by omega)
theorem aR7 {m:Nat} (hm:m<=5) {M:List (List Int)} (hM:aS5 m M):Ep (λk=>aBv.f k M) (·=true):=by
 simp only[aBv.f]
 have hml:=hM.1
 refine Ep.neg (by omega) ?_
 rw[hml]
 exact aWh hm hM m 0 (by omega)
def upTo (m:Nat):List Int:=(List.range m).map λj:Nat=>(j:Int)
theorem aNg {m:Nat} (hm:m<=5) {M:List (List Int)} (hM:aS5 m M):Ep (λk=>aBz.f k M) (·=aIq M (upTo m) (upTo m)):=by
 simp only[aBz.f]
 refine Ep.bind (aR7 hm hM) ?_
 rintro _ rfl
 refine Ep.pos rfl ?_
 obtain⟨h1,h2,h3,h4⟩:=bGx (i:=m) (by omega)
 rw[hM.1,h2]
 refine Ep.bind (bCm h4) ?_
 rintro _ rfl
 rw[h1]
 have hpos:0<2^m:=Nat.pow_pos (by omega)
 refine Ep.bind (aZ8 hm hM _ (by simp;exact hm) (λr hr=>?_) (2^m-1) (by omega)) ?_
 ·obtain⟨j,hj,rfl⟩:=List.mem_map.1 hr
  have:=List.mem_range.1 hj
  omega
 ·rintro _ rfl
  rw[h1]
  exact Ep.now rfl
theorem aYg {n q:Nat} (hq:q<n) {es:List E} (hel:es.length<=12):aS5 (n-1) (aUj n es q):=by
 refine⟨bBu hq es,λr hr=>?_,λr hr x hx=>?_⟩
 ·unfold aUj at hr
  obtain⟨v,_,rfl⟩:=List.mem_map.1 hr
  rw[List.length_map,aK1 hq]
 ·unfold aUj at hr
  obtain⟨v,_,rfl⟩:=List.mem_map.1 hr
  obtain⟨w,_,rfl⟩:=List.mem_map.1 hx
  exact bFv hel _ _
def vAt (vs:List Int) (i:Int):Int:=vs.getD i.toNat 0
theorem bBv {n q:Nat} (hq:q<n) (es:List E) {r c:Int} (hr:0<=r/\r<((n-1:Nat):Int)) (hc:0<=c/\c<((n-1:Nat):Int)):ent (aUj n es q) r c=aHp es (vAt (vsL n q) r) (vAt (vsL n q) c):=by
 have hl:=aK1 hq
 unfold ent aUj rd vAt
 rw[getD_map (λr=>(vsL n q).map λc=>aHp es r c) (vsL n q) r.toNat 0 [] (by omega),getD_map (λc=>aHp es _ c) (vsL n q) c.toNat 0 0 (by omega)]
theorem aRk {M:List (List Int)} {A:Int->Int->Int} {v:Int->Int}:∀ (rs cs:List Int),(∀ r∈rs,∀ c∈cs,ent M r c=A (v r) (v c))->aIq M rs cs=aIr (rs.map v) (cs.map λc r=>A r (v c))
 | [],cs,_=>rfl
 | r::rs,cs,h=>by
  show (alt cs.length λi=>ent M r (cs.getD i 0)*aIq M rs (cs.eraseIdx i))=alt (cs.map λc r=>A r (v c)).length λi=>((cs.map λc r=>A r (v c)).getD i z0) (v r)*aIr (rs.map v) ((cs.map λc r=>A r (v c)).eraseIdx i)
  rw[List.length_map]
  refine aGn λi hi=>?_
  rw[getD_map (λc r=>A r (v c)) cs i 0 z0 hi,map_eraseIdx,aRk rs (cs.eraseIdx i) λr' hr' c hc=>h r' (List.mem_cons_of_mem _ hr') c (List.mem_of_mem_eraseIdx hc),h r List.mem_cons_self _ (getD_mem 0 hi)]
theorem aMf {m:Nat} {x:Int}:x∈upTo m↔0<=x/\x<m:=by
 unfold upTo
 rw[List.mem_map]
 constructor
 ·rintro⟨j,hj,rfl⟩
  have:=List.mem_range.1 hj
  omega
 ·exact λh=>⟨x.toNat,List.mem_range.2 (by omega),by omega⟩
theorem bBj (vs:List Int):(upTo vs.length).map (vAt vs)=vs:=by
 unfold upTo
 rw[List.map_map]
 refine List.ext_getElem (by simp) λi h1 h2=>?_
 simp[vAt,List.getD,h2]
theorem aUi {n q:Nat} (hq:q<n) (es:List E):aIq (aUj n es q) (upTo (n-1)) (upTo (n-1))=aIn es (vsL n q):=by
 rw[aRk (A:=aHp es) (v:=vAt (vsL n q)) _ _ λr hr c hc=>bBv hq es (aMf.1 hr) (aMf.1 hc)]
 unfold aIn
 have e:=bBj (vsL n q)
 rw[aK1 hq]at e
 have e2:(upTo (n-1)).map (λ(c r:Int)=>aHp es r (vAt (vsL n q) c))=((upTo (n-1)).map (vAt (vsL n q))).map λc r=>aHp es r c:=by rw[List.map_map];rfl
 rw[e2,e]
theorem aJw {n:Nat} {es:List E} (hg:GOk (n:Int) es):Ep (λk=>aCp.f k (n:Int) es) (·=aIn es (vsL n 0)):=by
 have hG:=hg.1
 unfold aHx at hG
 simp only[aCp.f]
 refine Ep.aEr (aJa _ _) ?_
 rw[aE8.2 hg]
 refine Ep.pos rfl (Ep.bind (bK0 hg (q:=0) (by omega)) ?_)
 rintro _ rfl
 refine Ep.bind (aNg (by omega) (aYg (q:=0) (by omega) hG.2.2.1)) ?_
 rintro _ rfl
 rw[aUi (by omega)]
 exact Ep.now rfl
theorem aSz {n:Nat} (es:List E) (a:Int) {v:Nat} (hv:v<n):(aH1 n es a).take (v+1)=(aH1 n es a).take v++[aHp es a (v:Int)]:=by
 rw[List.take_succ_eq_append_getElem (by unfold aH1;rw[aHb];exact hv)]
 unfold aH1 aMa
 simp
theorem aLi (n:Nat) (es:List E) (a:Int):(aH1 n es a).length=n:=by unfold aH1;rw[aHb]
theorem aVw {n:Nat} {es:List E} (hes:∀ e∈es,EOk n e) (hel:es.length<=12) (hn:n<=6) {M:List (List Int)} (hM:M.length<=6) {v:Nat} (hv:v<n) {Q:List (List Int)->Prop}
  (hQ:Ep (λk=>aAp.l0 k (M++[aH1 n es (v:Int)]) ((v+1:Nat):Int) (n:Int) es) Q):∀ (d i:Nat),i+d=n ->
  Ep (λk=>aAp.l1 k M (v:Int) ((aH1 n es (v:Int)).take i) (i:Int) (n:Int) es) Q:=by
 intro d
 induction d with
 | zero =>
  intro i hi
  refine Ep.up ?_
  simp only[aAp.l1]
  refine Ep.neg (by omega) (Ep.pos (by omega) ?_)
  rw[wrap_succ (by omega),List.take_of_length_le (by rw[aLi];omega)]
  exact hQ
 | succ d ih =>
  intro i hi
  have h:=ih (i+1) (by omega)
  rw[aSz es _ (by omega)]at h
  have hl:((aH1 n es (v:Int)).take i).length<=6:=by rw[List.length_take,aLi];omega
  refine Ep.up ?_
  simp only[aAp.l1]
  refine Ep.pos (by omega) ?_
  rw[wrap_succ (by omega)]
  by_cases c:v=i
  ·refine Ep.pos (by omega) (Ep.bind (aSh _ es _ (by omega)) ?_)
   rintro _ rfl
   refine Ep.pos (by omega) ?_
   rw[aHm ⟨by omega,by omega⟩]
   have e:aHp es (v:Int) (i:Int)=val es (v:Int):=by
    unfold aHp
    rw[if_pos (by omega)]
   rw[e]at h
   exact h
  ·refine Ep.neg (by omega) (Ep.bind (aUb _ es hes hel _ _ ⟨by omega,by omega⟩ ⟨by omega,by omega⟩) ?_)
   rintro _ rfl
   have hm0:=aFe es (v:Int) (i:Int)
   have hm1:=aJ7 es (v:Int) (i:Int)
   refine Ep.pos (by omega) ?_
   have e:aHp es (v:Int) (i:Int)=- mult es (v:Int) (i:Int):=by
    unfold aHp
    rw[if_neg (by omega)]
   rw[e]at h
   rw[aCk (by omega) (by omega)]
   exact h
theorem aVx {n:Nat} {es:List E} (hes:∀ e∈es,EOk n e) (hel:es.length<=12) (hn:n<=6):∀ (d v:Nat),v+d=n->Ep (λk=>aAp.l0 k ((aPc n es).take v) (v:Int) (n:Int) es) (·=aPc n es):=by
 intro d
 induction d with
 | zero =>
  intro v hv
  refine Ep.up ?_
  simp only[aAp.l0]
  refine Ep.neg (by omega) (Ep.now ?_)
  rw[List.take_of_length_le (by rw[aKy];omega)]
 | succ d ih =>
  intro v hv
  have h1:=ih (v+1) (by omega)
  rw[aR2 es (by omega)]at h1
  refine Ep.up ?_
  simp only[aAp.l0]
  refine Ep.pos (by omega) ?_
  exact aVw hes hel hn (by rw[List.length_take];omega) (by omega) h1 n 0 (by omega)
theorem bF6 {n:Nat} {es:List E} (hg:GOk (n:Int) es):Ep (λk=>aAp.f k (n:Int) es) (·=aPc n es):=by
 have hG:=hg.1
 unfold aHx at hG
 simp only[aAp.f]
 refine Ep.bind (aJ0 _ _) ?_
 rintro _ rfl
 refine Ep.pos (aE8.2 hg) ?_
 have:=aVx (n:=n) hG.2.2.2 hG.2.2.1 (by omega) n 0 (by omega)
 simpa using this
theorem bJ3 {n:Nat} {es:List E} (hg:GOk (n:Int) es) {q:Nat} (hq:q<n):Ep (λk=>aBh.f k (n:Int) es (q:Int)) (·=aUj n es q):=by
 have hG:=hg.1
 unfold aHx at hG
 simp only[aBh.f]
 refine Ep.bind (aJ0 _ _) ?_
 rintro _ rfl
 refine Ep.pos (aE8.2 hg) ?_
 rw[aCk (x:=(n:Int)-1) (by omega) (by omega)]
 refine Ep.aEr (aIg _ _ _) ?_
 refine Ep.pos (by simp;omega) ?_
 refine Ep.bind (bF6 hg) ?_
 rintro _ rfl
 have hr:∀ r∈aPc n es,r.length=n:=λr hr=>by
  unfold aPc at hr
  obtain⟨i,_,rfl⟩:=List.mem_map.1 hr
  exact aLi n es _
 refine Ep.pos (λr h=>by rw[hr r h];omega) ?_
 have e:bB3 (q:Int) (aPc n es)=some (aUj n es q):=by
  unfold bB3
  rw[if_pos,Int.toNat_natCast,aUz]
  exact⟨by omega,by omega,by rw[aKy];omega,λr h=>by rw[hr r h];omega⟩
 exact Ep.congr (λ_=>e) (Ep.now rfl)
theorem bJ4 {m:Nat} {M:List (List Int)} (hM:aS5 m M) {i:Nat} (hi:i<m):aBt M (i:Int)∈M:=by
 unfold aBt
 rw[Int.toNat_natCast,zdG,zdH (by have:=hM.1;omega)]
 exact List.getElem_mem _
theorem aVu {m:Nat} (hm:m<=5) {M:List (List Int)} (hM:aS5 m M) {i:Nat} (hi:i<m) {r:List Int} (hr:r∈M) (hn:Ep (λk=>aBb.l0 k M M (m:Int) ((i+1:Nat):Int)) (·=true)) :
  ∀ (d j:Nat),j+d=m->Ep (λk=>aBb.l1 k M M (m:Int) (i:Int) r (m:Int) (j:Int)) (·=true):=by
 have hl:=hM.2.1 r hr
 intro d
 induction d with
 | zero =>
  intro j hj
  refine Ep.up ?_
  simp only[aBb.l1]
  refine Ep.neg (by omega) ?_
  rw[wrap_succ (by omega)]
  exact hn
 | succ d ih =>
  intro j hj
  have hb:=bJ5 (hM.2.2 r hr) (j:Int)
  refine Ep.up ?_
  simp only[aBb.l1]
  refine Ep.pos (by omega) (Ep.pos (by omega) (Ep.pos (by omega) (Ep.aEr (aIg _ _ _) (Ep.pos (by simp;omega) ?_))))
  rw[wrap_succ (by omega)]
  exact ih (j+1) (by omega)
theorem aVv {m:Nat} (hm:m<=5) {M:List (List Int)} (hM:aS5 m M):∀ (d i:Nat),i+d=m->Ep (λk=>aBb.l0 k M M (m:Int) (i:Int)) (·=true):=by
 have hM1:=hM.1
 intro d
 induction d with
 | zero =>
  intro i hi
  refine Ep.up ?_
  simp only[aBb.l0]
  exact Ep.neg (by omega) (Ep.now rfl)
 | succ d ih =>
  intro i hi
  have hr:=bJ4 hM (i:=i) (by omega)
  have hl:=hM.2.1 _ hr
  refine Ep.up ?_
  simp only[aBb.l0]
  refine Ep.pos (by omega) (Ep.pos (by omega) (Ep.pos (by omega) (Ep.pos (by omega) ?_)))
  rw[hl]
  exact aVu hm hM (by omega) hr (ih (i+1) (by omega)) m 0 (by omega)
theorem aQc {m:Nat} (hm:m<=5) {M:List (List Int)} (hM:aS5 m M):Ep (λk=>aBb.f k M) (·=true):=by
 have hM1:=hM.1
 simp only[aBb.f]
 refine Ep.neg (by omega) ?_
 rw[hM1]
 exact aVv hm hM m 0 (by omega)
theorem aVz {m:Nat} (hm:m<=5) {M:List (List Int)} (hM:aS5 m M) {r:Int} {rs:List Int} (hr:0<=r/\r<m) (hrs:rs.length<=4) {cs:List Int} (hcs:cs.length<=6) (hc:∀ c∈cs,0<=c/\c<(m:Int))
  (ih:∀ cs':List Int,cs'.length<=6->(∀ c∈cs',0<=c/\c<(m:Int))->Ep (λk=>aBc.f k M rs cs') (·=aIq M rs cs')) :
  ∀ (d p:Nat) (s σ:Int),p+d=cs.length->(σ=1∨σ=-1)->(-(p*23219011584:Int)<=s/\s<=p*23219011584) ->
   Ep (λk=>aBc.l0 k M (r::rs) cs s σ cs (cs.length:Int) (p:Int))
    (·=s+σ*alt (cs.length-p) λi=>ent M r (cs.getD (p+i) 0)*aIq M rs (cs.eraseIdx (p+i))):=by
 have hM1:=hM.1
 have hrow:(aBt M r).length=m:=by
  unfold aBt
  rw[zdG,zdH (by have:=hM.1;omega)]
  exact hM.2.1 _ (List.getElem_mem _)
 intro d
 induction d with
 | zero =>
  intro p s σ hp hσ hs
  refine Ep.up ?_
  simp only[aBc.l0]
  refine Ep.neg (by omega) (Ep.now ?_)
  rw[show cs.length-p=0 by omega]
  simp[alt]
 | succ d ihd =>
  intro p s σ hp hσ hs
  have hlt:p<cs.length:=by omega
  have e0:rd (r::rs) 0=r:=rfl
  have ec:rd cs (p:Int)=cs[p]:=by
   rw[aJv,zdG,zdH hlt]
   rfl
  have hcp:=hc _ (List.getElem_mem hlt)
  have eg:cs.getD p 0=cs[p]:=by
   rw[zdG,zdH hlt]
   rfl
  have hent:rd (aBt M r) (cs[p])=ent M r (cs.getD p 0):=by rw[eg];rfl
  have hbd:=hM.ent r (cs.getD p 0)
  have hle:(cs.eraseIdx p).length<=6:=by rw[List.length_eraseIdx];split<;>omega
  have hdb:=bE6 hM (rs:=rs) (cs:=cs.eraseIdx p) (by omega) hle
  have hsplit:cs.length-p=(cs.length-(p+1))+1:=by omega
  have hneg:wrap64 (-σ)=-σ:=aCk (by omega) (by omega)
  refine Ep.up ?_
  simp only[aBc.l0]
  rw[e0,ec,hent,hneg,wrap_succ (by omega)]
  refine Ep.pos (by omega) (Ep.pos (by omega) (Ep.pos (by omega) (Ep.pos (by rw[List.length_cons];omega) (Ep.pos (by omega) (Ep.pos (by omega) (Ep.pos (by omega) (Ep.pos (by omega) ?_)))))))
  rw[hsplit,aRr _ (λi=>ent M r (cs.getD i 0)*aIq M rs (cs.eraseIdx i))]
  by_cases hz:ent M r (cs.getD p 0)=0
  ·refine Ep.pos hz ?_
   refine(ihd (p+1) s (-σ) (by omega) (by omega) (by omega)).mono λv hv=>?_
   rw[hv,hz,Int.zero_mul,Int.zero_sub,Int.mul_neg,Int.neg_mul]
  ·refine Ep.neg hz (Ep.aEr rfl (Ep.pos (by omega) (Ep.pos (by simp only[List.length_nil,List.length_take];omega) (Ep.aEr rfl (Ep.pos (by omega) (Ep.pos (by omega) (Ep.pos (by simp only[List.nil_append,List.length_take,List.length_drop];omega) (Ep.pos (by rw[List.length_cons];omega) ?_))))))))
   rw[List.nil_append,Int.toNat_natCast,Int.toNat_natCast,<-List.eraseIdx_eq_take_drop_succ,show (r::rs).drop 1=rs from rfl]
   refine Ep.bind (ih _ hle λc h=>hc c (List.mem_of_mem_eraseIdx h)) ?_
   rintro _ rfl
   have hprod:=aYu hbd hdb
   have e5:wrap64 (σ*ent M r (cs.getD p 0))=σ*ent M r (cs.getD p 0):=by
    rcases hσ with rfl|rfl
    ·exact aCk (by omega) (by omega)
    ·exact aCk (by omega) (by omega)
   have e6:σ*ent M r (cs.getD p 0)*aIq M rs (cs.eraseIdx p)=σ*(ent M r (cs.getD p 0)*aIq M rs (cs.eraseIdx p)):=Int.mul_assoc _ _ _
   have hb2:-(23219011584:Int)<=σ*(ent M r (cs.getD p 0)*aIq M rs (cs.eraseIdx p))/\σ*(ent M r (cs.getD p 0)*aIq M rs (cs.eraseIdx p))<=23219011584:=by
    rcases hσ with rfl|rfl<;>omega
   rw[e5,e6]
   have e7:wrap64 (σ*(ent M r (cs.getD p 0)*aIq M rs (cs.eraseIdx p)))=σ*(ent M r (cs.getD p 0)*aIq M rs (cs.eraseIdx p)):=aCk (by omega) (by omega)
   have e8:wrap64 (s+σ*(ent M r (cs.getD p 0)*aIq M rs (cs.eraseIdx p)))=s+σ*(ent M r (cs.getD p 0)*aIq M rs (cs.eraseIdx p)):=aCk (by omega) (by omega)
   rw[e7,e8]
   refine(ihd (p+1) _ (-σ) (by omega) (by omega) (by omega)).mono λv hv=>?_
   rw[hv,Int.mul_sub,Int.neg_mul]
   omega
theorem aY4 {m:Nat} (hm:m<=5) {M:List (List Int)} (hM:aS5 m M):∀ (rs:List Int),rs.length<=5->(∀ r∈rs,0<=r/\r<(m:Int))->∀ cs:List Int,cs.length<=6->(∀ c∈cs,0<=c/\c<(m:Int))->Ep (λk=>aBc.f k M rs cs) (·=aIq M rs cs)
 | [],_,_,cs,_,_=>by
  refine Ep.up ?_
  simp only[aBc.f]
  exact Ep.pos rfl (Ep.now rfl)
 | r::rs,hl,hr,cs,hcl,hc=>by
  have hr0:=hr r List.mem_cons_self
  have ih:=aY4 hm hM rs (by simp at hl;omega) (λx hx=>hr x (List.mem_cons_of_mem _ hx))
  refine Ep.up ?_
  simp only[aBc.f]
  refine Ep.neg (by rw[List.length_cons];omega) ?_
  refine(aVz hm hM hr0 (by simp at hl;omega) hcl hc ih cs.length 0 0 1 (by omega) (Or.inl rfl) (by omega)).mono λv hv=>?_
  rw[hv]
  simp only[Nat.sub_zero,Nat.zero_add,Int.zero_add,Int.one_mul]
  rfl
def aEe (es:List E) (l:List Int):List E:=l.map (λk=>es.getD k.toNat ⟨0,0⟩)
def InR (es:List E) (l:List Int) (i:Nat):Prop:=∀ j,(h:j<l.length)->j<i->0<=l[j]/\l[j]<es.length
def Up (l:List Int) (i:Nat):Prop:=∀ j,(h:j+1<l.length)->j+1<i->l[j]<l[j+1]
theorem aRi {es:List E} {l:List Int} {i:Nat} (hi:i<l.length) {m:Nat} (hm:l[i]=m) (hl:m<es.length):aEe es (l.take (i+1))=aEe es (l.take i)++[es[m]]:=by
 unfold aEe
 rw[List.take_add_one,zdH hi,List.map_append]
 congr 1
 simp[hm,List.getD,hl]
theorem aLl {n:Int} {es:List E} {l:List Int} (hes:∀ e∈es,EOk n e) (hr:InR es l l.length):∀ e∈aEe es l,EOk n e:=by
 intro e he
 obtain⟨x,hx,rfl⟩:=List.mem_map.1 he
 obtain⟨j,hj,rfl⟩:=List.mem_iff_getElem.1 hx
 have:=hr j hj hj
 obtain⟨m,hm⟩:=Int.eq_ofNat_of_zero_le this.1
 rw[hm]
 have hml:m<es.length:=by omega
 simp only[Int.ofNat_eq_natCast,Int.toNat_natCast,List.getD,zdH hml,Option.getD_some]
 exact hes _ (List.getElem_mem hml)
theorem aQd (n:Nat) (hn:1<=n/\n<=6) (es:List E) (l:List Int) (hl:l.length<=12) (hes:∀ e∈es,EOk n e) (hr:InR es l l.length):∀ (d i:Nat),i+d=l.length->Ep (λk=>aBi.l0 k l (l.length:Int) (i:Int) (n:Int) es (n:Int) (aEe es (l.take i))) (·=aHs n (aEe es l)):=by
 intro d
 induction d with
 | zero =>
  intro i hi
  refine Ep.up ?_
  simp only[aBi.l0]
  refine Ep.neg (by omega) ?_
  rw[List.take_of_length_le (by omega)]
  refine Ep.bind (aQb n hn (aEe es l) (by simp[aEe];omega) (aLl hes hr)) ?_
  intro r hr
  refine Ep.now ?_
  rw[Bool.eq_iff_iff,aIh,<-hr.1]
  simp only[beq_iff_eq]
  omega
 | succ d ih =>
  intro i hi
  have hlt:i<l.length:=by omega
  have hx:=hr i hlt hlt
  obtain⟨m,hm⟩:=Int.eq_ofNat_of_zero_le hx.1
  have hml:m<es.length:=by omega
  refine Ep.up ?_
  simp only[aBi.l0]
  rw[aEc hlt,hm]
  refine Ep.pos (by omega) (Ep.pos (by omega) (Ep.pos (by omega) (Ep.pos (by omega) (Ep.pos (by omega) (Ep.pos ?_ ?_)))))
  ·simp[aEe];omega
  ·have:=ih (i+1) (by omega)
   rw[aRi hlt hm hml]at this
   rw[aCk (by omega) (by omega)]
   have e:aA3 es ((m:Nat):Int)=es[m]:=aFu hml
   rw[e]
   exact this
theorem aY1 (n:Nat) (hn:1<=n/\n<=6) (es:List E) (l:List Int) (hl:l.length<=12) (hes:∀ e∈es,EOk n e) (hr:InR es l l.length):Ep (λk=>aBi.f k (n:Int) es l) (·=aHs n (aEe es l)):=by
 simp only[aBi.f]
 exact aQd n hn es l hl hes hr l.length 0 (by omega)
def aOn (n:Int) (es:List E) (l:List Int):Prop:=GOk n es/\(l.length:Int)=n-1/\InR es l l.length/\Up l l.length/\Joined n (aEe es l)
open Classical in
noncomputable def aQ2 (n:Int) (es:List E) (l:List Int):Bool:=decide (aOn n es l)
theorem aQ1 {n:Int} {es:List E} {l:List Int}:aQ2 n es l=true↔aOn n es l:=by unfold aQ2;simp
theorem aQ0 {n:Int} {es:List E} {l:List Int} (hg:GOk n es) (hl:(l.length:Int)=n-1) (hr:InR es l l.length) (hu:Up l l.length):aHs n (aEe es l)=aQ2 n es l:=by
 rw[Bool.eq_iff_iff,aIh,aQ1]
 exact⟨λh=>⟨hg,hl,hr,hu,h⟩,λh=>h.2.2.2.2⟩
theorem aP9 {α:Type} [BEq α] [LawfulBEq α]:∀ {l m:List α},l.Nodup->(∀ x∈l,x∈m)->l.length<=m.length
 | [],_,_,_=>Nat.zero_le _
 | a::l,m,h,hs=>by
  have ha:=hs a List.mem_cons_self
  rw[List.nodup_cons]at h
  have:=aP9 (m:=m.erase a) h.2 (λx hx=>(List.mem_erase_of_ne (show x≠a by intro e;subst e;exact h.1 hx)).2 (hs x (List.mem_cons_of_mem _ hx)))
  rw[List.length_erase_of_mem ha]at this
  have:=List.length_pos_of_mem ha
  rw[List.length_cons]
  omega
def upG (m:Nat):List Int:=(List.range m).map λj:Nat=>(j:Int)
theorem aOx {m:Nat} {x:Int}:x∈upG m↔0<=x/\x<m:=by
 unfold upG
 rw[List.mem_map]
 constructor
 ·rintro⟨j,hj,rfl⟩
  rw[List.mem_range]at hj
  omega
 ·rintro⟨h0,h1⟩
  exact⟨x.toNat,by rw[List.mem_range];omega,by omega⟩
theorem aXu (m:Nat):(upG m).length=m:=by simp[upG]
theorem aXt (m:Nat):(upG m).Nodup:=by
 unfold upG
 rw[List.Nodup,List.pairwise_map]
 exact List.nodup_range.imp (λh e=>h (by omega))
theorem bJc {n:Nat} {S:List Int} (h:S.length<n):∃ v:Int,(0<=v/\v<n)/\v∉S:=by
 apply Classical.byContradiction
 intro hc
 have:=aP9 (aXt n) (m:=S) (λx hx=>Classical.byContradiction λhx2=>hc ⟨x,aOx.1 hx,hx2⟩)
 rw[aXu]at this
 omega
theorem all_in {n:Nat} {S:List Int} (hn:S.Nodup) (hr:∀ v∈S,0<=v/\v<(n:Int)) (h:S.length=n) {v:Int} (h0:0<=v) (h1:v<n):v∈S:=by
 apply Classical.byContradiction
 intro hv
 have:=aP9 (l:=v::S) (m:=upG n) (List.nodup_cons.2 ⟨hv,hn⟩) (λx hx=>by
  rw[aOx]
  rcases List.mem_cons.1 hx with rfl|hx
  ·exact⟨h0,h1⟩
  ·exact hr x hx)
 rw[aXu,List.length_cons]at this
 omega
theorem aK6 {es:List E} {l m:List Int} (h:∀ a∈l,a∈m):∀ e∈aEe es l,e∈aEe es m:=by
 intro e he
 unfold aEe at he ⊢
 obtain⟨k,hk,rfl⟩:=List.mem_map.1 he
 exact List.mem_map.2 ⟨k,h k hk,rfl⟩
theorem grow {n:Nat} {es:List E} {A:List Int} (hes:∀ e∈aEe es A,EOk n e) (hj:Joined n (aEe es A)):∀ k:Nat,1<=k->k<=n ->
  ∃ S l:List Int,S.length=k/\S.Nodup/\(∀ v∈S,0<=v/\v<(n:Int))/\(0:Int)∈S/\l.length+1=k/\l.Nodup/\(∀ a∈l,a∈A)/\(∀ v∈S,aH6 (aEe es l) 0 v)/\∀ a∈l,(es.getD a.toNat ⟨0,0⟩).f0∈S/\(es.getD a.toNat ⟨0,0⟩).f1∈S:=by
 intro k
 induction k with
 | zero=>intro h;omega
 | succ k ih =>
  intro _ hk
  by_cases h0:k=0
  ·subst h0
   refine⟨[0],[],rfl,List.nodup_cons.2 ⟨List.not_mem_nil,List.nodup_nil⟩,?_,List.mem_singleton.2 rfl,rfl,List.nodup_nil,λa ha=>absurd ha List.not_mem_nil,?_,λa ha=>absurd ha List.not_mem_nil⟩
   ·intro v hv
    rw[List.mem_singleton.1 hv]
    omega
   ·intro v hv
    rw[List.mem_singleton.1 hv]
    exact aH6.refl
  ·obtain⟨S,l,h1,h2,h3,h4,h5,h6,h7,h8,h9⟩:=ih (by omega) (by omega)
   obtain⟨v,hv,hvS⟩:=bJc (n:=n) (S:=S) (by omega)
   have hx:∃ a b,a∈S/\Adj (aEe es A) a b/\b∉S:=by
    apply Classical.byContradiction
    intro hc
    exact hvS ((hj v hv.1 hv.2).closed (S:=λx=>x∈S) (λa b ha hab=>Classical.byContradiction λhb=>hc ⟨a,b,ha,hab,hb⟩) h4)
   obtain⟨a,b,ha,hab,hb⟩:=hx
   obtain⟨e,he,hend⟩:=hab
   have hok:=hes e he
   unfold EOk at hok
   unfold aEe at he
   obtain⟨j,hj2,rfl⟩:=List.mem_map.1 he
   have hjl:j∉l:=by
    intro hjl
    have:=h9 j hjl
    rcases hend with ⟨p,q⟩|⟨p,q⟩
    ·exact hb (q▸this.2)
    ·exact hb (p▸this.1)
   have hsub:∀ x∈l,x∈j::l:=λx hx=>List.mem_cons_of_mem _ hx
   refine⟨b::S,j::l,by rw[List.length_cons];omega,List.nodup_cons.2 ⟨hb,h2⟩,?_,List.mem_cons_of_mem _ h4,by rw[List.length_cons];omega,List.nodup_cons.2 ⟨hjl,h6⟩,?_,?_,?_⟩
   ·intro x hx
    rcases List.mem_cons.1 hx with rfl|hx
    ·rcases hend with ⟨p,q⟩|⟨p,q⟩
     ·rw[<-q];omega
     ·rw[<-p];omega
    ·exact h3 x hx
   ·intro x hx
    rcases List.mem_cons.1 hx with rfl|hx
    ·exact hj2
    ·exact h7 x hx
   ·intro x hx
    rcases List.mem_cons.1 hx with rfl|hx
    ·refine((h8 a ha).sub (aK6 hsub)).trans (aH6.one ⟨es.getD j.toNat ⟨0,0⟩,?_,hend⟩)
     exact List.mem_map.2 ⟨j,List.mem_cons_self,rfl⟩
    ·exact(h8 x hx).sub (aK6 hsub)
   ·intro x hx
    rcases List.mem_cons.1 hx with rfl|hx
    ·rcases hend with ⟨p,q⟩|⟨p,q⟩
     ·rw[p,q]
      exact⟨List.mem_cons_of_mem _ ha,List.mem_cons_self⟩
     ·rw[p,q]
      exact⟨List.mem_cons_self,List.mem_cons_of_mem _ ha⟩
    ·exact⟨List.mem_cons_of_mem _ (h9 x hx).1,List.mem_cons_of_mem _ (h9 x hx).2⟩
theorem bIw {l:List Int} (h:l.Pairwise (·<·)):Up l l.length:=λj h1 _=>List.pairwise_iff_getElem.1 h j (j+1) (by omega) h1 (by omega)
theorem bF1 {n:Nat} (hn:1<=n) {es:List E} {A:List Int} (hA:∀ a∈A,0<=a/\a<(es.length:Int)) (hg:GOk n es) (hj:Joined n (aEe es A)):∃ l:List Int,aOn n es l/\(∀ a∈l,a∈A)/\l.Pairwise (·<·):=by
 have hes:∀ e∈aEe es A,EOk n e:=by
  intro e he
  unfold aEe at he
  obtain⟨k,hk,rfl⟩:=List.mem_map.1 he
  have:=hA k hk
  rw[zdG,zdH (by omega)]
  exact hg.1.2.2.2 _ (List.getElem_mem _)
 obtain⟨S,l,h1,h2,h3,h4,h5,h6,h7,h8,h9⟩:=grow hes hj n hn (Nat.le_refl _)
 have hp:(l.mergeSort (λa b=>decide (a<=b))).Perm l:=List.mergeSort_perm l _
 have hs:(l.mergeSort (λa b=>decide (a<=b))).Pairwise (·<=·):=by
  have h:=List.pairwise_mergeSort (le:=λa b:Int=>decide (a<=b)) (λa b c h1 h2=>by simp at *;omega) (λa b=>by simp;omega) l
  exact h.imp (λh=>by simpa using h)
 generalize l.mergeSort (λa b=>decide (a<=b))=m at hp hs
 have hm:∀ a∈m,a∈A:=λa ha=>h7 a (hp.mem_iff.1 ha)
 have hlt:m.Pairwise (·<·):=(hs.and (hp.nodup_iff.2 h6)).imp (λh=>by have:=h.1;have:=h.2;omega)
 refine⟨m,⟨hg,by rw[hp.length_eq];omega,λj hj2 _=>hA _ (hm _ (List.getElem_mem hj2)),bIw hlt,?_⟩,hm,hlt⟩
 intro v h0 hv
 exact(h8 v (all_in h2 h3 h1 h0 hv)).sub (aK6 λa ha=>hp.mem_iff.2 ha)
theorem aMn {s t:List Int} {n:Nat}:t∈aMo s n↔∃ j:Nat,aJz s<=j/\j<n/\t=s++[(j:Int)]:=by
 unfold aMo
 rw[List.mem_map]
 constructor
 ·rintro⟨d,hd,rfl⟩
  rw[List.mem_range]at hd
  exact⟨aJz s+d,by omega,by omega,rfl⟩
 ·rintro⟨j,h1,h2,rfl⟩
  exact⟨j-aJz s,by rw[List.mem_range];omega,by rw[show aJz s+(j-aJz s)=j by omega]⟩
theorem aKk {n:Nat}:∀ {k:Nat} {s:List Int},s∈aGf n k↔s.length=k/\(∀ x∈s,0<=x/\x<(n:Int))/\s.Pairwise (·<·)
 | 0,s=>by
  rw[aGf,List.mem_singleton]
  constructor
  ·rintro rfl
   exact⟨rfl,λx hx=>absurd hx List.not_mem_nil,List.Pairwise.nil⟩
  ·rintro⟨h,_⟩
   exact List.length_eq_zero_iff.1 h
 | k+1,s=>by
  rw[aGf,List.mem_flatMap]
  constructor
  ·rintro⟨t,ht,hs⟩
   obtain⟨h1,h2,h3⟩:=aKk.1 ht
   obtain⟨j,hj1,hj2,rfl⟩:=aMn.1 hs
   refine⟨by rw[List.length_append,h1];rfl,?_,?_⟩
   ·intro x hx
    rcases List.mem_append.1 hx with hx|hx
    ·exact h2 x hx
    ·rw[List.mem_singleton.1 hx]
     omega
   ·rw[List.pairwise_append]
    refine⟨h3,List.pairwise_singleton _ _,?_⟩
    intro a ha b hb
    rw[List.mem_singleton.1 hb]
    have:=bL8 h3 (λx hx=>(h2 x hx).1) ha
    omega
  ·rintro⟨h1,h2,h3⟩
   have hd:=(List.dropLast_concat_getLast (l:=s) (by intro e;rw[e]at h1;cases h1)).symm
   generalize s.dropLast=t at hd
   generalize s.getLast _=y at hd
   subst hd
   rw[List.length_append]at h1
   rw[List.pairwise_append]at h3
   have hy:=h2 y (List.mem_append.2 (Or.inr List.mem_cons_self))
   refine⟨t,aKk.2 ⟨by simpa using h1,λx hx=>h2 x (List.mem_append.2 (Or.inl hx)),h3.1⟩,aMn.2 ⟨y.toNat,?_,by omega,by rw[Int.toNat_of_nonneg hy.1]⟩⟩
   rcases bL7 t (λx hx=>(h2 x (List.mem_append.2 (Or.inl hx))).1) with h|⟨x,hx,h⟩
   ·omega
   ·have:=h3.2.2 x hx y List.mem_cons_self
    omega
theorem bIv {l:List Int} (h:Up l l.length):l.Pairwise (·<·):=by
 have key:∀ (d i:Nat) (hi:i+d+1<l.length),l[i]'(by omega)<l[i+d+1]:=by
  intro d
  induction d with
  | zero=>intro i hi;exact h i hi (by omega)
  | succ d ih =>
   intro i hi
   have h1:=ih i (by omega)
   have h2:=h (i+d+1) hi (by omega)
   have e:l[i+(d+1)+1]=l[i+d+1+1]:=rfl
   omega
 rw[List.pairwise_iff_getElem]
 intro i j hi hj hij
 have:=key (j-i-1) i (by omega)
 have e:i+(j-i-1)+1=j:=by omega
 simpa only [e]using this
noncomputable def aI6 (n:Int) (es:List E):List (List Int):=(aGf es.length (n.toNat-1)).filter (aQ2 n es)
theorem aPz {n:Int} {es:List E} {l:List Int}:l∈aI6 n es↔aOn n es l:=by
 unfold aI6
 rw[List.mem_filter,aQ1]
 constructor
 ·exact λh=>h.2
 ·intro h
  refine⟨aKk.2 ⟨?_,?_,bIv h.2.2.2.1⟩,h⟩
  ·have:=h.2.1
   omega
  ·intro x hx
   obtain⟨j,hj,rfl⟩:=List.getElem_of_mem hx
   exact h.2.2.1 j hj hj
theorem bBm {n:Nat} {es:List E} (hg:GOk (n:Int) es):aI6 (n:Int) es≠[]:=by
 have h1:1<=n:=by have:=hg.1.1;omega
 obtain⟨l,hl,_⟩:=bF1 h1 (es:=es) (A:=upG es.length) (λa ha=>aOx.1 ha) hg (by
  intro v h0 hv
  refine(hg.2.2 v h0 hv).sub ?_
  intro e he
  obtain⟨j,hj,rfl⟩:=List.getElem_of_mem he
  refine List.mem_map.2 ⟨(j:Int),aOx.2 ⟨by omega,by omega⟩,?_⟩
  rw[Int.toNat_natCast,zdG,zdH hj]
  rfl)
 intro e
 have:=aPz.2 hl
 rw[e]at this
 cases this
theorem aW0 (m:Nat) (hm:m<=100):∀ (d i:Nat),i+d=m->Ep (λk=>aC2.l0 k (m:Int) (upTo i) (i:Int)) (·=upTo m):=by
 intro d
 induction d with
 | zero =>
  intro i hi
  refine Ep.up ?_
  simp only[aC2.l0]
  refine Ep.neg (by omega) (Ep.now ?_)
  rw[show i=m by omega]
 | succ d ih =>
  intro i hi
  have h:=ih (i+1) (by omega)
  have e:upTo (i+1)=upTo i++[(i:Int)]:=by unfold upTo;rw[List.range_succ,List.map_append];rfl
  rw[e]at h
  have hl:(upTo i).length=i:=by unfold upTo;simp
  refine Ep.up ?_
  simp only[aC2.l0]
  refine Ep.pos (by omega) (Ep.pos (by omega) ?_)
  rw[wrap_succ (by omega)]
  exact h
theorem aY5 (m:Nat) (hm:m<=100):Ep (λk=>aC2.f k (m:Int)) (·=upTo m):=by
 simp only[aC2.f]
 exact aW0 m hm m 0 (by omega)
theorem aN4 {m:Nat} (hm:m<=5) {M:List (List Int)} (hM:aS5 m M):Ep (λk=>aD6.f k M) (·=aIq M (upTo m) (upTo m)):=by
 have hM1:=hM.1
 have hu:(upTo m).length=m:=by unfold upTo;simp
 simp only[aD6.f]
 refine Ep.bind (aQc hm hM) ?_
 rintro _ rfl
 rw[hM1]
 refine Ep.pos rfl (Ep.bind (aY5 m (by omega)) ?_)
 rintro _ rfl
 refine Ep.bind (aY5 m (by omega)) ?_
 rintro _ rfl
 refine Ep.bind (aY4 hm hM (upTo m) (by omega) (λr hr=>aMf.1 hr) (upTo m) (by omega) (λr hr=>aMf.1 hr)) ?_
 rintro _ rfl
 exact Ep.now rfl
theorem aO0 {n:Nat} {es:List E} (hg:GOk (n:Int) es):Ep (λk=>aDc.f k (n:Int) es) (·=aIn es (vsL n 0)):=by
 have hG:=hg.1
 unfold aHx at hG
 simp only[aDc.f]
 refine Ep.bind (aJ0 _ _) ?_
 rintro _ rfl
 refine Ep.pos (aE8.2 hg) (Ep.bind (bJ3 hg (q:=0) (by omega)) ?_)
 rintro _ rfl
 refine Ep.bind (aN4 (by omega) (aYg (q:=0) (by omega) hG.2.2.1)) ?_
 rintro _ rfl
 rw[aUi (by omega)]
 exact Ep.now rfl
open Classical in
noncomputable def trO (n:Int) (es:List E):List (List Int)×Bool:=if gOk n es=true/\aIn es (vsL n.toNat 0)<=400 then(aI6 n es,true) else([],false)
theorem Ep.all {α β:Type} {f:Nat->α->Option β} {g:α->β}:∀ (L:List α),(∀ x∈L,Ep (λk=>f k x) (·=g x))->∃ K,∀ k,K<=k->∀ x∈L,f k x=some (g x)
 | [],_=>⟨0,λk _ x hx=>absurd hx List.not_mem_nil⟩
 | a::L,h=>by
  obtain⟨K,hK⟩:=Ep.all L λx hx=>h x (List.mem_cons_of_mem _ hx)
  obtain⟨_,rfl,J,hJ⟩:=h a List.mem_cons_self
  refine⟨max K J,λk hk x hx=>?_⟩
  rcases List.mem_cons.1 hx with rfl|hx
  ·exact hJ k (by omega)
  ·exact hK k (by omega) x hx
theorem aQ7 {n:Nat} {es:List E} (hg:GOk (n:Int) es) (L:List (List Int)) (hL:L.length<=3000000) (hm:∀ s∈L,s∈aGf es.length (n-1)):∀ (d i:Nat),i+d=L.length->Ep (λk=>aB9.l0 k ((L.take i).filter (aQ2 (n:Int) es)) L (L.length:Int) (i:Int) (n:Int) es) (·=(L.filter (aQ2 (n:Int) es),true)):=by
 have hG:=hg.1
 unfold aHx at hG
 intro d
 induction d with
 | zero =>
  intro i hi
  refine Ep.up ?_
  simp only[aB9.l0]
  refine Ep.neg (by omega) (Ep.now ?_)
  rw[List.take_of_length_le (by omega)]
 | succ d ih =>
  intro i hi
  have h:=ih (i+1) (by omega)
  have hlt:i<L.length:=by omega
  have e:aBt L (i:Int)=L[i]:=by
   unfold aBt
   rw[Int.toNat_natCast,zdG,zdH hlt]
   rfl
  have hmem:=aKk.1 (hm _ (List.getElem_mem hlt))
  have hr:InR es L[i] L[i].length:=λj hj _=>hmem.2.1 _ (List.getElem_mem hj)
  have hu:Up L[i] L[i].length:=λj hj _=>List.pairwise_iff_getElem.1 hmem.2.2 j (j+1) (by omega) hj (by omega)
  have hlen:(L[i].length:Int)=(n:Int)-1:=by have:=hmem.1;omega
  have ht:((L.take i).filter (aQ2 (n:Int) es)).length<=3000000:=Nat.le_trans (List.length_filter_le _ _) (by rw[List.length_take];omega)
  rw[List.take_succ_eq_append_getElem hlt,List.filter_append]at h
  refine Ep.up ?_
  simp only[aB9.l0]
  refine Ep.pos (by omega) (Ep.pos (by omega) (Ep.pos (by omega) ?_))
  rw[e,wrap_succ (by omega)]
  refine Ep.bind (aY1 n (by omega) es L[i] (by omega) hG.2.2.2 hr) ?_
  rintro _ rfl
  rw[aQ0 hg hlen hr hu]
  by_cases c:aQ2 (n:Int) es L[i]=true
  ·rw[List.filter_cons_of_pos c]at h
   exact Ep.pos c (Ep.pos (by omega) h)
  ·rw[List.filter_cons_of_neg c,List.filter_nil,List.append_nil]at h
   exact Ep.neg c h
theorem aQ8 (n:Int) (es:List E):Ep (λk=>aB9.f k n es) (·=trO n es):=by
 simp only[aB9.f]
 refine Ep.bind (aJ0 _ _) ?_
 rintro _ rfl
 unfold trO
 by_cases c:gOk n es=true
 ·have hg:=aE8.1 c
  have hG:=hg.1
  unfold aHx at hG
  obtain⟨m,rfl⟩:=Int.eq_ofNat_of_zero_le (show 0<=n by omega)
  rw[Int.toNat_natCast]
  refine Ep.pos c (Ep.bind (aO0 hg) ?_)
  rintro _ rfl
  refine Ep.up ?_
  simp only[aB9.j0]
  by_cases h4:aIn es (vsL m 0)<=400
  ·rw[if_pos ⟨c,h4⟩]
   refine Ep.neg (by simp;omega) ?_
   refine Ep.aEr (a:=aGf es.length (m-1)) ?_ ?_
   ·rw[aCk (by omega) (by omega),show (m:Int)-1=((m-1:Nat):Int) by omega]
    unfold aEx.f
    rw[if_pos (by omega),Int.toNat_natCast,Int.toNat_natCast]
   ·have hS:=aOb (n:=es.length) hG.2.2.1 (k:=m-1) (by omega)
    have h:=aQ7 hg (aGf es.length (m-1)) (by omega) (λs hs=>hs) (aGf es.length (m-1)).length 0 (by omega)
    unfold aI6
    rw[Int.toNat_natCast]
    exact h
  ·rw[if_neg (λh=>h4 h.2)]
   exact Ep.pos (by simp;omega) (Ep.now rfl)
 ·rw[if_neg (λh=>c h.1)]
  refine Ep.neg c (Ep.up ?_)
  simp only[aB9.j0]
  exact Ep.pos (by first|rfl|trivial|simp) (Ep.now rfl)
end Cf
namespace Cf
open P
def lexB:List Int->List Int->Bool
 | x::xs,y::ys=>if x=y then lexB xs ys else decide (x<y)
 | _,_=>false
theorem aLg:∀ {a b:List Int},lexB a b=true->lexB b a=false
 | [],b,h=>by simp[lexB]at h
 | x::xs,[],h=>by simp[lexB]at h
 | x::xs,y::ys,h=>by
  unfold lexB at h ⊢
  by_cases e:x=y
  ·rw[if_pos e]at h
   rw[if_pos e.symm]
   exact aLg h
  ·rw[if_neg e]at h
   rw[if_neg (λh2=>e h2.symm)]
   have:=zdT h
   exact zdN (by omega)
theorem aUw:∀ {a b:List Int} (s t:List Int),a.length=b.length->lexB a b=true->lexB (a++s) (b++t)=true
 | [],b,s,t,_,h=>by simp[lexB]at h
 | x::xs,[],s,t,_,h=>by simp[lexB]at h
 | x::xs,y::ys,s,t,hl,h=>by
  unfold lexB at h
  show (if x=y then lexB (xs++s) (ys++t) else decide (x<y))=true
  by_cases e:x=y
  ·rw[if_pos e]at h ⊢
   exact aUw s t (by simpa using hl) h
  ·rw[if_neg e]at h ⊢
   exact h
theorem aQy:∀ (a:List Int) (s t:Int),s<t->lexB (a++[s]) (a++[t])=true
 | [],s,t,h=>by
  show (if s=t then lexB [] [] else decide (s<t))=true
  rw[if_neg (by omega)]
  exact zdY h
 | x::xs,s,t,h=>by
  show (if x=x then lexB (xs++[s]) (xs++[t]) else decide (x<x))=true
  rw[if_pos rfl]
  exact aQy xs s t h
theorem aUv:∀ {a b:List Int} (q:Nat) (z:Int),a.getD q 0=b.getD q 0->lexB a b=true->lexB (a.set q z) (b.set q z)=true
 | [],b,q,z,_,h=>by simp[lexB]at h
 | x::xs,[],q,z,_,h=>by simp[lexB]at h
 | x::xs,y::ys,0,z,hq,h=>by
  have e:x=y:=hq
  unfold lexB at h
  rw[if_pos e]at h
  show (if z=z then lexB xs ys else decide (z<z))=true
  rw[if_pos rfl]
  exact h
 | x::xs,y::ys,q+1,z,hq,h=>by
  unfold lexB at h
  show (if x=y then lexB (xs.set q z) (ys.set q z) else decide (x<y))=true
  by_cases e:x=y
  ·rw[if_pos e]at h ⊢
   exact aUv q z hq h
  ·rw[if_neg e]at h ⊢
   exact h
theorem aPp (c:Nat->Nat):∀ n,(aHw c n).Pairwise (λa b=>lexB a b=true)
 | 0=>List.pairwise_singleton _ _
 | n+1=>by
  rw[aHw,List.pairwise_flatMap]
  refine⟨λa _=>?_,?_⟩
  ·unfold aNh
   rw[List.pairwise_map]
   exact List.pairwise_lt_range.imp λh=>aQy a _ _ (by omega)
  ·refine List.Pairwise.imp_of_mem ?_ (aPp c n)
   intro a b ha hb h x hx y hy
   unfold aNh at hx hy
   obtain⟨s,_,rfl⟩:=List.mem_map.1 hx
   obtain⟨t,_,rfl⟩:=List.mem_map.1 hy
   exact aUw _ _ ((aIi ha).1.trans (aIi hb).1.symm) h
def aMs (es:List E) (q:Int) (v:Nat):Nat:=if(v:Int)=q then 1 else(val es (v:Int)).toNat
def pB (n:Nat) (es:List E) (q:Int) (x:List Int):Bool:=decide ((aK8 n es (rd x) q).length=n)
def aJ1 (n:Nat) (es:List E) (q:Int):List (List Int):=(aHw (aMs es q) n).filter (pB n es q)
def pkL (n:Nat) (es:List E) (q:Int):List (List Int):=(aJ1 n es q).map λx=>x.set q.toNat (-1)
theorem aJe {c d:Nat->Nat}:∀ {n:Nat},(∀ v,v<n->c v=d v)->aHw c n=aHw d n
 | 0,_=>rfl
 | n+1,h=>by rw[aHw,aHw,aJe λv hv=>h v (by omega),h n (by omega)]
theorem aVe {c:Nat->Nat} {b q:Nat} (hb:1<=b) (hq:c q<=1):∀ {v:Nat},(∀ u,u<v->c u<=b)->(aHw c v).length<=if q<v then b^(v-1) else b^v
 | 0,_=>by rw[if_neg (by omega)];exact Nat.le_refl _
 | v+1,h=>by
  have ih:=aVe hb hq (v:=v) λu hu=>h u (by omega)
  show ((aHw c v).flatMap (aNh (c v))).length<=_
  rw[aJc]
  by_cases e:q<v
  ·rw[if_pos e]at ih
   rw[if_pos (by omega)]
   have:=Nat.mul_le_mul ih (h v (by omega))
   rwa[<-Nat.pow_succ,show (v-1).succ=v+1-1 by omega]at this
  ·rw[if_neg e]at ih
   by_cases e2:q=v
   ·subst e2
    rw[if_pos (by omega),Nat.add_sub_cancel]
    have:=Nat.mul_le_mul ih hq
    omega
   ·rw[if_neg (by omega),Nat.pow_succ]
    exact Nat.mul_le_mul ih (h v (by omega))
section
variable {n:Nat} {es:List E} {q:Int}
theorem bDq (g:Gr n es q) (v:Int):val es v<=12:=by have:=aPy es v;have:=g.hel;omega
theorem bDp (g:Gr n es q) {v:Nat} (hv:v<n) (hne:(v:Int)≠q):1<=val es (v:Int):=by
 have:=aXp g.hj g.hq ⟨by omega,by omega⟩ hne
 omega
theorem aZs (g:Gr n es q) (v:Nat):aMs es q v<=12:=by
 unfold aMs
 have:=bDq g (v:Int)
 split<;>omega
theorem bD1 (g:Gr n es q) {v:Nat} (hv:v<n):1<=aMs es q v:=by
 unfold aMs
 split
 ·exact Nat.le_refl _
 ·rename_i h
  have:=bDp g hv h
  omega
theorem bLr (g:Gr n es q):(aHw (aMs es q) n).length<=248832:=by
 have hq:=g.hq
 have h6:=g.n6
 have h:=aVe (c:=aMs es q) (b:=12) (q:=q.toNat) (by omega) (by unfold aMs;rw[if_pos (by omega)];exact Nat.le_refl _) (v:=n) λu _=>aZs g u
 rw[if_pos (by omega)]at h
 exact Nat.le_trans h (Nat.pow_le_pow_right (n:=12) (by omega) (show n-1<=5 by omega))
theorem bGw (g:Gr n es q):0<(aHw (aMs es q) n).length:=by
 have key:∀ m,m<=n->0<(aHw (aMs es q) m).length:=by
  intro m
  induction m with
  | zero=>intro _;exact Nat.one_pos
  | succ m ih =>
   intro hm
   show 0<((aHw (aMs es q) m).flatMap (aNh (aMs es q m))).length
   rw[aJc]
   exact Nat.mul_pos (ih (by omega)) (bD1 g (by omega))
 exact key n (Nat.le_refl _)
theorem bGv (g:Gr n es q) (x:List Int):(aK8 n es (rd x) q).length<=n:=(aPo (es:=es) (d:=rd x) g.hq).1.len g.hq
theorem aFd {x:List Int} (h:x∈aJ1 n es q):x.length=n/\∀ (j:Nat) (hj:j<x.length),0<=x[j]/\x[j]<(aMs es q j:Int):=aIi (List.mem_filter.1 h).1
theorem aP1 (g:Gr n es q):(aJ1 n es q).length<=248832:=Nat.le_trans (List.length_filter_le _ _) (bLr g)
theorem aKo (g:Gr n es q) {x:List Int} (h:x∈aJ1 n es q):x.getD q.toNat 0=0:=by
 have hq:=g.hq
 obtain⟨h1,h2⟩:=aFd h
 have hl:q.toNat<x.length:=by omega
 have h3:=h2 q.toNat hl
 have h4:aMs es q q.toNat=1:=by unfold aMs;rw[if_pos (by omega)]
 rw[h4]at h3
 rw[zdG,zdH hl]
 simp only[Option.getD_some]
 omega
theorem bFl (g:Gr n es q):(pkL n es q).Pairwise λa b=>lexB a b=true:=by
 unfold pkL
 rw[List.pairwise_map]
 have h:=(aPp (aMs es q) n).sublist (List.filter_sublist (p:=pB n es q))
 refine List.Pairwise.imp_of_mem ?_ h
 intro a b ha hb hab
 exact aUv _ _ ((aKo g ha).trans (aKo g hb).symm) hab
theorem bFk {x:List Int} (h:x∈pkL n es q):x.length=n:=by
 obtain⟨y,hy,rfl⟩:=List.mem_map.1 h
 rw[List.length_set]
 exact(aFd hy).1
theorem aZ5 (g:Gr n es q):Ep (λk=>aA6.f k (n:Int) es q) (·=aJ1 n es q):=by
 have h6:=g.n6
 have hel:=g.hel
 obtain⟨K1,hK1⟩:=Ep.all (f:=λk (v:Nat)=>aAq.f k (n:Int) es (v:Int)) (g:=λv=>aOw (n:Int) es (v:Int)) (List.range n) λv _=>aGh (n:Int) es (v:Int) (by omega)
 obtain⟨K2,hK2⟩:=Ep.all (f:=λk x=>aB1.f k (n:Int) es x q) (g:=λx=>aK8 n es (rd x) q) (aHw (aMs es q) n) λx hx=>aV5 g x (aIi hx).1
 refine⟨_,rfl,max K1 K2,λk hk=>?_⟩
 have hv:∀ v,v<n->aAq.f k (n:Int) es (v:Int)=some (val es (v:Int)):=λv hv=>by rw[hK1 k (by omega) v (List.mem_range.2 hv),aHm ⟨by omega,by omega⟩]
 have hb:=hK2 k (by omega)
 have e1:aHw (aA6.cnt k (n:Int) es q) n=aHw (aMs es q) n:=aJe λv hv'=>by
  unfold aA6.cnt aMs
  rw[hv v hv']
  rfl
 have hnn:((n:Int)).toNat=n:=Int.toNat_natCast n
 show aA6.f k (n:Int) es q=some (aJ1 n es q)
 unfold aA6.f
 rw[if_pos]
 ·rw[hnn,e1]
  congr 1
  refine List.filter_congr λx hx=>?_
  have hle:=bGv g x
  unfold aA6.pr pB
  rw[hb x hx]
  show (!decide (((aK8 n es (rd x) q).length:Int)<(n:Int)))=decide ((aK8 n es (rd x) q).length=n)
  by_cases e:(aK8 n es (rd x) q).length=n
  ·rw[zdY e,zdN (by omega)];rfl
  ·rw[zdN e,zdY (by omega)];rfl
 ·refine⟨⟨by omega,λv hv'=>?_⟩,λx hx=>?_,?_⟩
  ·rw[hnn]at hv'
   rw[hv v hv']
   have h0:0<=val es (v:Int):=by
    by_cases e:(v:Int)=q
    ·exact aHy es _
    ·have:=bDp g hv' e;omega
   have:=bDq g (v:Int)
   exact⟨rfl,by simpa using h0,by simp only[Option.getD_some];omega⟩
  ·rw[hnn,e1]at hx
   rw[hb x hx]
   rfl
  ·rw[hnn,e1]
   exact bGw g
end
open Classical in
noncomputable def pkO (n:Int) (es:List E) (q:Int):List (List Int)×Bool:=if gOk n es=true/\(0<=q/\q<n)/\aIn es (vsL n.toNat 0)<=400 then(pkL n.toNat es q,true) else([],false)
theorem bDz {n:Nat} {es:List E} (hg:GOk (n:Int) es):Ep (λk=>aD0.f k (n:Int) es) (·=aIn es (vsL n 0)):=by
 simp only[aD0.f]
 refine Ep.bind (aJw hg) ?_
 rintro _ rfl
 exact Ep.now rfl
theorem bK1 (n:Int) (es:List E) (q:Int) (hn:Wf .i64 n):Ep (λk=>aBk.f k n es q) (·=pkO n es q):=by
 simp only[aBk.f]
 refine Ep.aEr (aH2 n es q hn) ?_
 unfold pkO
 by_cases c:gOk n es=true
 ·by_cases hq:0<=q/\q<n
  ·have hg:=aE8.1 c
   obtain⟨m,rfl⟩:=Int.eq_ofNat_of_zero_le (show 0<=n by omega)
   have g:Gr m es q:=Gr.of hg hq
   simp only[Int.toNat_natCast]
   refine Ep.pos (by rw[c,zdY hq];rfl) (Ep.bind (bDz hg) ?_)
   rintro _ rfl
   by_cases h4:aIn es (vsL m 0)<=400
   ·rw[if_pos ⟨c,hq,h4⟩]
    refine Ep.pos h4 (Ep.bind (aZ5 g) ?_)
    rintro _ rfl
    have hl:=aP1 g
    have h6:=g.n6
    exact Ep.pos ⟨hq.1,λx hx=>by rw[(aFd hx).1];exact⟨hq.2,by omega⟩,by omega⟩ (Ep.now rfl)
   ·rw[if_neg λh=>h4 h.2.2]
    exact Ep.neg h4 (Ep.now rfl)
  ·rw[if_neg λh=>hq h.2.1]
   exact Ep.neg (by rw[zdN hq];simp) (Ep.now rfl)
 ·rw[if_neg λh=>c h.1]
  exact Ep.neg (by rw[Bool.eq_false_iff.2 c];simp) (Ep.now rfl)
end Cf
namespace Cf
open P
theorem bDx:∀ {a b:List Int},a.length=b.length->lexB a b=decide (aI3 a b<0)
 | [],[],_=>rfl
 | [],_::_,h=>by simp at h
 | _::_,[],h=>by simp at h
 | x::xs,y::ys,h=>by
  unfold lexB aI3
  by_cases e:x=y
  ·rw[if_pos e,if_pos e]
   exact bDx (by simpa using h)
  ·rw[if_neg e,if_neg e]
   by_cases c:x<y
   ·rw[if_pos c,zdY c]
    rfl
   ·rw[if_neg c,zdN c]
    rfl
theorem cmpK (a b:Int):cmp_Compare_int.f a b=some (if a<b then -1 else if a>b then 1 else 0):=by
 by_cases h1:a<b
 ·simp[cmp_Compare_int.f,cmp_isNaN_int.f,h1]
 ·by_cases h2:b<a<;>simp[cmp_Compare_int.f,cmp_isNaN_int.f,h1,h2]
theorem bLo (a b:List Int) (hl:a.length=b.length) (hb:a.length<=1000):∀ (d i:Nat),i+d=a.length->Ep (λk=>aAu.l0 k a b a (a.length:Int) (i:Int)) (·=aI3 (a.drop i) (b.drop i)):=by
 intro d
 induction d with
 | zero =>
  intro i hi
  refine Ep.up ?_
  simp only[aAu.l0]
  refine Ep.neg (by omega) (Ep.neg (by omega) (Ep.now ?_))
  rw[List.drop_eq_nil_of_le (by omega),List.drop_eq_nil_of_le (by omega)]
  rfl
 | succ d ih =>
  intro i hi
  have h:=ih (i+1) (by omega)
  have ha:i<a.length:=by omega
  have hb2:i<b.length:=by omega
  refine Ep.up ?_
  simp only[aAu.l0]
  refine Ep.pos (by omega) (Ep.pos (by omega) (Ep.pos (by omega) (Ep.neg (by omega) (Ep.pos (by omega) (Ep.aEr (cmpK _ _) ?_)))))
  rw[List.drop_eq_getElem_cons ha,List.drop_eq_getElem_cons hb2,aEc ha,aEc hb2,wrap_succ (by omega)]
  by_cases e:a[i]=b[i]
  ·refine Ep.pos (by rw[if_neg (by omega),if_neg (by omega)]) (h.mono λr hr=>hr.trans ?_)
   show _=if a[i]=b[i] then _ else _
   rw[if_pos e]
  ·refine Ep.neg (by split;omega;split;omega;omega) (Ep.now ?_)
   show _=if a[i]=b[i] then _ else _
   rw[if_neg e]
   by_cases c:a[i]<b[i]
   ·rw[if_pos c,if_pos c]
   ·rw[if_neg c,if_neg c,if_pos (by omega)]
theorem bU9 (a b:List Int) (hl:a.length=b.length) (hb:a.length<=1000):Ep (λk=>aAu.f k a b) (·=aI3 a b):=by
 simp only[aAu.f]
 exact bLo a b hl hb a.length 0 (by omega)
theorem aYo {L:List (List Int)} {x y:List Int} (hx:x∈L) (hy:y∈L):(x,y)∈L.flatMap λx=>L.map λy=>(x,y):=List.mem_flatMap.2 ⟨x,hx,List.mem_map.2 ⟨y,hy,rfl⟩⟩
theorem bGs {L:List (List Int)} {n:Nat} (hn:n<=1000) (hr:∀ x∈L,x.length=n):∃ K,∀ k,K<=k->∀ x∈L,∀ y∈L,aAu.f k x y=some (aI3 x y):=by
 obtain⟨K,hK⟩:=Ep.all (f:=λk (p:List Int×List Int)=>aAu.f k p.1 p.2) (g:=λp=>aI3 p.1 p.2) (L.flatMap λx=>L.map λy=>(x,y)) (by
  intro p hp
  obtain⟨x,hx,hp⟩:=List.mem_flatMap.1 hp
  obtain⟨y,hy,rfl⟩:=List.mem_map.1 hp
  exact bU9 x y ((hr x hx).trans (hr y hy).symm) (by rw[hr x hx];exact hn))
 exact⟨K,λk hk x hx y hy=>hK k hk (x,y) (aYo hx hy)⟩
theorem aT8 (q:Int) (p:List Int) (hl:p.length<=1048576):∀ (d i:Nat),i+d=p.length->Ep (λk=>aCa.l0 k q p (p.length:Int) (i:Int)) (·=aIs q p d i):=by
 intro d
 induction d with
 | zero =>
  intro i hi
  refine Ep.up ?_
  simp only[aCa.l0]
  exact Ep.neg (by omega) (Ep.now rfl)
 | succ d ih =>
  intro i hi
  refine Ep.up ?_
  simp only[aCa.l0]
  refine Ep.pos (by omega) (Ep.pos (by omega) (Ep.pos (by omega) ?_))
  rw[wrap_succ (by omega)]
  unfold aIs
  refine Ep.ite (λh=>?_) (λh=>?_)
  ·rw[if_pos h]
   exact ih (i+1) (by omega)
  ·rw[if_neg h]
   refine Ep.ite (λh2=>Ep.now ?_) (λh2=>?_)
   ·rw[if_pos h2]
   ·rw[if_neg h2]
    exact ih (i+1) (by omega)
theorem bCk (p:List Int) (q:Int) (hl:p.length<=1048576):Ep (λk=>aCa.f k p q) (·=aIs q p p.length 0):=by
 simp only[aCa.f]
 exact aT8 q p hl p.length 0 (by omega)
def bPr (n:Nat) (es:List E) (q:Int) (d:List Int) (t:Int->Int):Prop:=aFy n es q (bU4 es (rd d)) t
theorem bPr.zero {n:Nat} {es:List E} {q:Int} {d:List Int}:bPr n es q d (λ_=>0):=aFy.zero
structure Sec (n:Nat) (es:List E) (q:Int) (d:List Int) (t u:Int->Int):Prop where
 ow:bPr n es q d t
 sets:Sets n es q (λv=>rd d v+lap es t v) u
theorem Sec.done {n:Nat} {es:List E} {q:Int} (g:Gr n es q) {d:List Int} {t u:Int->Int} (h:Sec n es q d t u) {s x:List Int} (hs:Rep n s (λw=>u w-t w)) (hx:Rep n x (λw=>rd d w+lap es t w-lap es u w)) {b:List Int} (hbu:aPx n es (rd x) q b) (hl:b.length=n):aTq n es q d (x,s):=by
 refine⟨hx.1,hs.1,hbu.red g.hes g.hq hl (λv v0 v1 v2=>?_),?_,λv v0 v1=>?_⟩
 ·rw[hx.2 v v0 v1]
  exact h.sets.keeps v v0 v1 v2
 ·have e:rd s q=u q-t q:=hs.2 q g.hq.1 g.hq.2
  show rd s q=0
  rw[e,h.sets.bA0,h.ow.aKs.2]
  rfl
 ·have e:rd x v=rd d v+lap es t v-lap es u v:=hx.2 v v0 v1
  show rd x v=rd d v-lap es (rd s) v
  rw[e,aKw g.hes (t:=λw=>u w-t w) hs.2,aYx]
  omega
end Cf
namespace Cf
theorem bJ2 {n:Nat} (hn:n<=6) {d:List Int} (hd:d.length=n) {B:Int} (hB:0<=B) (hb:Bd d B):-(6*B)<=d.sum/\d.sum<=6*B:=by
 rw[aQ4 n d hd]
 have h1:=aI8 (n:=n) (f:=λi=>rd d (i:Int)) (c:=B) (λi hi=>(hb i (by omega) (by omega)).2)
 have h2:=aI8 (n:=n) (f:=λi=>- rd d (i:Int)) (c:=B) (λi hi=>by have:=(hb i (by omega) (by omega)).1;omega)
 have h3:aG4 n (λi=>- rd d (i:Int))+aG4 n (λi=>rd d (i:Int))=0:=by
  rw[<-aFc]
  have:=aFo n
  rw[<-this]
  apply aDg
  intro i _
  omega
 have h4:(n:Int)*B<=6*B:=Int.mul_le_mul_of_nonneg_right (by omega) hB
 omega
theorem bGo {n:Int} {es:List E} {d:List Int} (h:dOk n es d=true):∃ m:Nat,n=m/\(∀ q:Int,0<=q->q<n->Gr m es q)/\1<=m/\m<=6/\d.length=m/\Bd d 60/\Mod d:=by
 obtain⟨h1,h2,h3⟩:=aLm.1 h
 obtain⟨m,rfl⟩:=Int.eq_ofNat_of_zero_le (a:=n) (by omega)
 have hg:=h1.1
 unfold aHx at hg
 exact⟨m,rfl,λq q0 q1=>Gr.of h1 ⟨q0,q1⟩,by omega,by omega,by omega,Bd.bQp h3,λx hx=>by have:=h3 x hx;omega⟩
end Cf
namespace Cf
open P
theorem bFn {n:Int} {es:List E} {p:List Int} {q:Int} (h:pOk n es p q=true):∃ m:Nat,n=m/\Gr m es q/\Pre m q p:=by
 obtain⟨⟨h1,h2,h3⟩,h4,h5,h6⟩:=aP7.1 h
 obtain⟨m,rfl⟩:=Int.eq_ofNat_of_zero_le (a:=n) (by omega)
 have hl:p.length=m:=by omega
 refine⟨m,rfl,Gr.of h1 h4,⟨hl,λv v0 v1 _=>?_,h6⟩⟩
 obtain⟨i,rfl⟩:=Int.eq_ofNat_of_zero_le v0
 have hi:i<p.length:=by omega
 have:=h3 _ (List.getElem_mem hi)
 have:=h5 _ (List.getElem_mem hi)
 rw[aEc hi]
 omega
end Cf
end Go.Proofs.YtnbljcgdgblgoaaGreat
