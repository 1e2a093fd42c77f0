/- A part of the proof of aF3. -/
import Derived.Test.YtnbljcgdgblgoaaGreatBFnLists2
import Derived.Test.YtnbljcgdgblgoaaGreatBFnLists0
import Derived.Deep.RegionLaw
import Derived.Deep.LoopGhost
import Derived.Lib.Walk
import Derived.Lib.SliceRun
import Derived.Test.YtnbljcgdgblgoaaGreatBFnLists1
import Derived.Test.YtnbljcgdgblgoaaGreatBFnListsWApart
import Derived.Test.YtnbljcgdgblgoaaGreatBFnListsWMore
import Derived.Test.YtnbljcgdgblgoaaGreatBFnListsWWords
import Derived.Shelf.SlSortCmp.NoneTotal
set_option linter.unusedVariables false
set_option linter.unusedSimpArgs false
set_option maxHeartbeats 16000000
set_option maxRecDepth 1000000
namespace Go.Proofs.YtnbljcgdgblgoaaGreat
open Go.RowKit Go.Proofs.YtnbljcgdgblgoaaGreatW.PrintWords Go.Proofs.YtnbljcgdgblgoaaGreatW.PrintLast Go.Proofs.YtnbljcgdgblgoaaGreatW.PrintMore
attribute [local go_sem] max2_int min2_int max_two min_two max_three min_three max_four min_four
namespace P
mutual
def aAk.l0:Nat->List (List Int)->List Int->Int->Int->Int->List Int->Int->Int->Option (Int)
 | 0,_,_,_,_,_,_,_,_=>none
 | k+1,x0,x1,x2,x7,x8,sO,zN,qD=>if qD<zN then(if 0<=qD then(if qD<(sO.length:Int) then(if(Go.bits .and .i64 (shr .i64 x2 qD) 1)=0 then(aAk.l0 k x0 x1 x2 x7 x8 sO zN (wrap64 (qD+1))) else(if(rd sO qD)=0 then(aAk.l0 k x0 x1 x2 x7 (wrap64 (-x8)) sO zN (wrap64 (qD+1))) else(if 1<=(x1.length:Int) then((aAk.f k x0 (x1.drop 1) (Go.bits .andNot .i64 x2 (shl .i64 1 qD))).bind λfA=>(aAk.l0 k x0 x1 x2 (wrap64 (x7+(wrap64 ((wrap64 (x8*(rd sO qD)))*fA)))) (wrap64 (-x8)) sO zN (wrap64 (qD+1)))) else(none)))) else(none)) else(none)) else(some x7)
def aAk.f:Nat->List (List Int)->List Int->Int->Option (Int)
 | 0,_,_,_=>none
 | k+1,l0,l1,a2=>if(l1.length:Int)=0 then(some 1) else(if 0<(l1.length:Int) then(if 0<=(rd l1 0) then(if(rd l1 0)<(l0.length:Int) then(aAk.l0 k l0 l1 a2 0 1 (aBt l0 (rd l1 0)) ((aBt l0 (rd l1 0)).length:Int) 0) else(none)) else(none)) else(none))
end
theorem aAk.aBp:∀ k,(∀ y0 y1 y2,LeO (aAk.f k y0 y1 y2) (aAk.f (k+1) y0 y1 y2))/\(∀ y0 y1 y2 y3 y4 y5 y6 y7,LeO (aAk.l0 k y0 y1 y2 y3 y4 y5 y6 y7) (aAk.l0 (k+1) y0 y1 y2 y3 y4 y5 y6 y7))
 | 0=>⟨λ_ _ _ r h=>by simp[aAk.f]at h,λ_ _ _ _ _ _ _ _ r h=>by simp[aAk.l0]at h⟩
 | k+1=>by
  obtain⟨ih0,ih1⟩:=aAk.aBp k
  refine⟨?_,?_⟩
  ·intro y0 y1 y2
   unfold aAk.f
   exact zm1
  ·intro y0 y1 y2 y3 y4 y5 y6 y7
   unfold aAk.l0
   exact zm1
theorem aAk.mono:∀ a0 a1 a2 k,LeO (aAk.f k a0 a1 a2) (aAk.f (k+1) a0 a1 a2):=by
 intro a0 a1 a2 k;obtain⟨ih0,ih1⟩:=aAk.aBp k;exact ih0 a0 a1 a2
def aAk.T9:Bool×List (List Nat×List Nat):=(true,[([],[]),([],[]),([],[]),([1,2],[1,2]),([],[]),([],[]),([5],[5]),([],[]),([],[]),([8],[8]),([7,9],[7,9]),([4,6,10],[4,6,10]),([3,11],[3,11]),([0,12],[0,12]),([13,11,0,1,2,3,4,5,6,7,8,9,10,11,12,13],[0,13])])
def aAk.B9:List Nat:=[0,0,0,6,0,0,32,0,0,256,896,2032,4094,8191,16383]
theorem aAk.bSr:aIo .any (opsOf Tryz.f55 9)=aAk.T9:=by kernel_rfl
theorem aAk.bPh:aFn aAk.T9.2 aAk.B9=true:=by kernel_rfl
theorem aAk.calls (k:Nat):∀ (A0:Option Addr) (c0:Nat) (l0:List (List Int)) (A1:Option Addr) (c1:Nat) (l1:List Int) (a2:Int) (r:Int) (w:World) (hr0:Kd.C (Kd.slice 3 (Kd.int .i64)) w A0 l0.length l0) (hc0:l0.length<=c0) (hr1:Kd.C (Kd.int .i64) w A1 l1.length l1) (hc1:l1.length<=c1) (h:aAk.f k l0 l1 a2=some r),
  Calls Tryz.prog 55 #[.slice A0 l0.length c0,.slice A1 l1.length c1,.int .i64 a2] w λe w'=>e = .returned (.int .i64 r)/\Below w.heap.size w w':=by
 induction k using Nat.strongRecOn with
 | _ k ih =>
 intro A0 c0 l0 A1 c1 l1 a2 r w hr0 hc0 hr1 hc1 h
 cases k with
 | zero=>exact absurd h (by simp[aAk.f])
 | succ k =>
 simp only[aAk.f]at h;have HR0:=zK_ hr0;have HC0:=zK_ hc0;clear hr0 hc0;have HR1:=zK_ hr1;have HC1:=zK_ hc1;clear hr1 hc1;have HB:=zK_ (Below.refl w.heap.size w);have H:(if(l1.length:Int)=0 then(some 1) else(if 0<(l1.length:Int) then(if 0<=(rd l1 0) then(if(rd l1 0)<(l0.length:Int) then(aAk.l0 k l0 l1 a2 0 1 (aBt l0 (rd l1 0)) ((aBt l0 (rd l1 0)).length:Int) 0) else(none)) else(none)) else(none)))=some r:=h;clear h;by_cases c4:(l1.length:Int)=0
 ·rw[if_pos c4]at H;have gW:((l1.length:Int)==0)=true:=beq_iff_eq.mpr c4;have sZ:((l1.length:Int) != 0)=false:=bne_eq_false_iff_eq.mpr c4;clear c4;obtain rfl:=zdI H;go_enter Tryz.func55,Tryz.ntmps55;go_wp2;go_ret;exact⟨zz7,zz2⟩
 rw[if_neg c4]at H;have gW:((l1.length:Int)==0)=false:=beq_eq_false_iff_ne.mpr c4;have sZ:((l1.length:Int) != 0)=true:=bne_iff_ne.mpr c4;(have z6:¬ (l1=[]):=λh_=>c4 (by rw[h_];rfl));by_cases c5:0<(l1.length:Int);rotate_left
 ·rw[if_neg c5]at H;exact absurd H (by simp)
 rw[if_pos c5]at H;have fD:=zdY c5;have qF:decide (0<l1.length)=true:=zdY (by omega);clear c5;by_cases c6:0<=(rd l1 0);rotate_left
 ·rw[if_neg c6]at H;exact absurd H (by simp)
 rw[if_pos c6]at H;have iO:=zdY c6;clear c6;by_cases c7:(rd l1 0)<(l0.length:Int);rotate_left
 ·rw[if_neg c7]at H;exact absurd H (by simp)
 rw[if_pos c7]at H;have gT:=zdY c7;clear c7;have H':=zK_ H;clear H;have aDu:0<=(0:Int):=(by omega);have aDt:0<(l1.length:Int):=zdT zz4;obtain⟨d7,aFt,bM⟩:=Kd.aCl HR1.out 0 aDu aDt;cases aFt;have bSw:(0<l1.length)=True:=eq_true (by omega);(try rw[show ((0:Int)).toNat=0 from rfl]at bM);(try rw[Addr.add_zero']at bM);replace aDu:=eq_true aDu;replace aDt:=eq_true aDt;have aEk:0<=((rd l1 0):Int):=zdT zz4;have aEj:(rd l1 0)<(l0.length:Int):=zdT zz4;obtain⟨dQ,A102_0,c102_0,aGt,bK,k8,hi102_0⟩:=aH8 HR0.out (rd l1 0) aEk aEj;cases aGt;have HR102_0:=zK_ hi102_0;have HC102_0:=zK_ k8;clear hi102_0 k8;replace aEk:=eq_true aEk;replace aEj:=eq_true aEj;go_enter Tryz.func55,Tryz.ntmps55;go_wp2;(go_loopg [7,8,21] k (λkq v7 v8 v21 w'=>∃ (cK:Int) (cQ:Int) (dJ:Int),v7 = .int .i64 cK/\v8 = .int .i64 cQ/\v21 = .int .i64 dJ/\aA2 (aAk.l0 kq l0 l1 a2 cK cQ (aBt l0 (rd l1 0)) ((aBt l0 (rd l1 0)).length:Int) dJ=some r)/\aA2 (kq<=k)/\aA2 (Below w.heap.size w w')));case atStart=>exact⟨(0),(1),(0),zz6,zz6,zz6,H',⟨Nat.le_refl _⟩,⟨zz2⟩⟩
 case round =>
  clear H';(try clear c1);(try clear p1);(try clear q1);(try clear hx1);(try clear qi1);(try clear p2);(try clear c4);(try clear gW);(try clear sZ);(try clear z6);(try clear c5);(try clear fD);(try clear qF);(try clear c6);(try clear iO);(try clear c7);(try clear gT);(try clear bM);(try clear bK);(try clear aDu);(try clear aEk);(try clear aDt);(try clear aEj);obtain⟨cK,cQ,dJ,rfl,rfl,rfl,HA,HK1,HB⟩:=hrel
  cases gk with
  | zero=>exact absurd HA.out (by simp[aAk.l0])
  | succ k1 =>
   have H:=HA.out;clear HA;simp only[aAk.l0]at H;by_cases c8:dJ<((aBt l0 (rd l1 0)).length:Int);rotate_left
   ·rw[if_neg c8]at H;have gV:=zdN c8;(try(have lL:=gV;first|rw[k8]at lL|rw[<-k8]at lL));clear c8;obtain rfl:=zdI H;go_wp2;go_ret;exact⟨zz7,zz2⟩
   rw[if_pos c8]at H;have gV:=zdY c8;(try(have lL:=gV;first|rw[k8]at lL|rw[<-k8]at lL));clear c8;by_cases c9:0<=dJ;rotate_left
   ·rw[if_neg c9]at H;exact absurd H (by simp)
   rw[if_pos c9]at H;have iN:=zdY c9;clear c9;by_cases c10:dJ<((aBt l0 (rd l1 0)).length:Int);rotate_left
   ·rw[if_neg c10]at H;exact absurd H (by simp)
   rw[if_pos c10]at H;have fV:=zdY c10;(try(have pP:=fV;first|rw[k8]at pP|rw[<-k8]at pP));clear c10;have nJ:=eq_true (zdT zz4:0<=dJ);obtain⟨cE,nH⟩:∃ j_:Int,(shr .i64 a2 dJ)=j_:=⟨_,rfl⟩;(replace H:(if(Go.bits .and .i64 (cE) 1)=0 then(aAk.l0 k1 l0 l1 a2 cK cQ (aBt l0 (rd l1 0)) ((aBt l0 (rd l1 0)).length:Int) (wrap64 (dJ+1))) else(if(rd (aBt l0 (rd l1 0)) dJ)=0 then(aAk.l0 k1 l0 l1 a2 cK (wrap64 (-cQ)) (aBt l0 (rd l1 0)) ((aBt l0 (rd l1 0)).length:Int) (wrap64 (dJ+1))) else(if 1<=(l1.length:Int) then((aAk.f k1 l0 (l1.drop 1) (Go.bits .andNot .i64 a2 (shl .i64 1 dJ))).bind λfA=>(aAk.l0 k1 l0 l1 a2 (wrap64 (cK+(wrap64 ((wrap64 (cQ*(rd (aBt l0 (rd l1 0)) dJ)))*fA)))) (wrap64 (-cQ)) (aBt l0 (rd l1 0)) ((aBt l0 (rd l1 0)).length:Int) (wrap64 (dJ+1)))) else(none))))=some r:=by first|(rw[nH]at H;exact H)|(simp only[nH]at H ⊢;exact H));have MJ:(a2/2^min dJ.toNat 64)=cE:=nH;have MH:dJ<=64->(a2/2^dJ.toNat)=cE:=aKj nH;by_cases c13:(Go.bits .and .i64 (cE) 1)=0
   ·rw[if_pos c13]at H;have jU:((Go.bits .and .i64 (cE) 1)==0)=true:=beq_iff_eq.mpr c13;have pO:((Go.bits .and .i64 (cE) 1) != 0)=false:=bne_eq_false_iff_eq.mpr c13;clear c13;have H':=zK_ H;clear H;have aEv:0<=(dJ:Int):=zdT zz4;have aEu:dJ<((aBt l0 (rd l1 0)).length:Int):=zdT zz4;obtain⟨bX,aH7,aZ⟩:=Kd.aCl HR102_0.out dJ aEv aEu;cases aH7;replace aZ:=(HB.out.cell (World.block_lt_of_cell? w _ aZ)).trans aZ;replace aEv:=eq_true aEv;replace aEu:=eq_true aEu;go_wp2;go_roundg k1;(case measure=>have:=HK1.out;omega);case rel=>exact⟨(cK),(cQ),(wrap64 (dJ+1)),zz6,zz6,zz6,H',⟨aHl⟩,⟨zz2⟩⟩
   rw[if_neg c13]at H;have jU:((Go.bits .and .i64 (cE) 1)==0)=false:=beq_eq_false_iff_ne.mpr c13;have pO:((Go.bits .and .i64 (cE) 1) != 0)=true:=bne_iff_ne.mpr c13;by_cases c14:(rd (aBt l0 (rd l1 0)) dJ)=0
   ·rw[if_pos c14]at H;have kJ:((rd (aBt l0 (rd l1 0)) dJ)==0)=true:=beq_iff_eq.mpr c14;have wU:((rd (aBt l0 (rd l1 0)) dJ) != 0)=false:=bne_eq_false_iff_eq.mpr c14;clear c14;have H':=zK_ H;clear H;have aEv:0<=(dJ:Int):=zdT zz4;have aEu:dJ<((aBt l0 (rd l1 0)).length:Int):=zdT zz4;obtain⟨bX,aH7,aZ⟩:=Kd.aCl HR102_0.out dJ aEv aEu;cases aH7;replace aZ:=(HB.out.cell (World.block_lt_of_cell? w _ aZ)).trans aZ;replace aEv:=eq_true aEv;replace aEu:=eq_true aEu;go_wp2;go_roundg k1;(case measure=>have:=HK1.out;omega);case rel=>exact⟨(cK),(wrap64 (-cQ)),(wrap64 (dJ+1)),zz6,zz6,zz6,H',⟨aHl⟩,⟨zz2⟩⟩
   rw[if_neg c14]at H;have kJ:((rd (aBt l0 (rd l1 0)) dJ)==0)=false:=beq_eq_false_iff_ne.mpr c14;have wU:((rd (aBt l0 (rd l1 0)) dJ) != 0)=true:=bne_iff_ne.mpr c14;by_cases c15:1<=(l1.length:Int);rotate_left
   ·rw[if_neg c15]at H;exact absurd H (by simp)
   rw[if_pos c15]at H;have mK:=eq_true c15;have wT:decide (1<=(l1.length:Int))=true:=zdY c15;clear c15;have mS:=eq_true (zdT zz4:0<=dJ);obtain⟨fB,jO⟩:∃ j_:Int,(shl .i64 1 dJ)=j_:=⟨_,rfl⟩;(replace H:((aAk.f k1 l0 (l1.drop 1) (Go.bits .andNot .i64 a2 (fB))).bind λfA=>(aAk.l0 k1 l0 l1 a2 (wrap64 (cK+(wrap64 ((wrap64 (cQ*(rd (aBt l0 (rd l1 0)) dJ)))*fA)))) (wrap64 (-cQ)) (aBt l0 (rd l1 0)) ((aBt l0 (rd l1 0)).length:Int) (wrap64 (dJ+1))))=some r:=by first|(rw[jO]at H;exact H)|(simp only[jO]at H ⊢;exact H));have qW:(IntKind.i64.wrap (1*2^min dJ.toNat 64))=fB:=jO;have sV:dJ<=64->(IntKind.i64.wrap (1*2^dJ.toNat))=fB:=aH0 jO;(have MC:(IntKind.i64.wrap (2^min dJ.toNat 64))=fB:=by have h_:=qW;rw[Int.one_mul]at h_;exact h_);(have MB:dJ<=64->(IntKind.i64.wrap (2^dJ.toNat))=fB:=λaTf=>by have h_:=sV aTf;rw[Int.one_mul]at h_;exact h_);have L8:(wrap64 (1*2^min dJ.toNat 64))=fB:=(aFm _).symm.trans qW;(have L9:dJ<=64->(wrap64 (1*2^dJ.toNat))=fB:=λh_=>(aFm _).symm.trans (sV h_));obtain⟨fA,bEl,H⟩:=zO_ H;(try dsimp only at H);have A18:=zK_ bEl;clear bEl;have H':=zK_ H;clear H;have aEv:0<=(dJ:Int):=zdT zz4;have aEu:dJ<((aBt l0 (rd l1 0)).length:Int):=zdT zz4;obtain⟨bX,aH7,aZ⟩:=Kd.aCl HR102_0.out dJ aEv aEu;cases aH7;replace aZ:=(HB.out.cell (World.block_lt_of_cell? w _ aZ)).trans aZ;replace aEv:=eq_true aEv;replace aEu:=eq_true aEu;(try go_wp2);replace HB:=zK_ (aAx HB.out);obtain⟨bVj,bKf,_,bK8,_⟩:=info_parts info3;obtain⟨A20,bQv,hA20,bR1⟩:=aGr (P:=Tryz.prog) (Value.int .i64) 0 26 3 .i64 Tryz.underlying26 bKf bK8 (some d7) c1 l1 1 (by omega) (zdT zz4) HC1.out;have bMg:=zK_ (Kd.aGj (h1:=λ_=>rfl) (hA20 _ (Kd.aGg HR1.out)));have bQ0:=zK_ bR1;clear hA20 bR1 bKf bK8;refine aFp (n:=15) (S:=λw'=>True) (ds:=[]) (zM 15 0) (by kernel_rfl) rfl rfl trivial (λhHeld=>?_);refine aE1 aAk.bSr aAk.bPh (λHT_ HW_=>?_);generalize wr.drew=w19 at HB bMg hHeld ⊢;refine zQ 0 33 (zM 15 1) ?_
   refine zQ 1 34 (zM 15 3) ?_
   refine zQ 2 35 (zM 15 7) ?_
   refine zQ 3 36 (zM 15 15) ?_
   refine zQ 4 37 (zM 15 31) ?_
   refine zQ 5 38 (zM 15 63) ?_
   refine zQ 6 39 (zM 15 127) ?_
   refine zQ 7 40 (zM 15 255) ?_
   refine zQ 8 41 (zM 15 511) ?_
   refine zQ 9 42 (zM 15 1023) ?_
   refine zQ 10 43 (zM 15 2047) ?_
   refine aHv (i:=11) (N:=some 44) (zM 15 4095) rfl rfl (aE3 HT_.out (by kernel_rfl)) (by decide) (λK hK=>?_);refine aG5 Tryz.func55 (by kernel_rfl) rfl #[.slice (some dQ) l0.length c0,.slice A20 (l1.drop 1).length (c1-1),.int .i64 (Go.bits .andNot .i64 a2 (fB))] (by rfl) rfl rfl (by(try simp only[List.map_toArray,List.map_cons,List.map_nil]);first|done|(rw[show (l1.drop 1).length=(l1.length-1) from List.length_drop]<;>rfl)|(simp only[jO];rfl)|rfl|(simp only[List.length_drop,List.length_take];rfl)) ?_;(with_reducible refine(ih k1 (by have:=HK1.out;omega) _ _ l0 _ _ (l1.drop 1) (Go.bits .andNot .i64 a2 (fB)) fA _ ?side1 ?side2 ?side3 ?side4 A18.out).mono ?_);(case side1=>exact aXm);(case side2=>exact HC0.out);(case side3=>repeat(first|exact(Kd.aC4 bMg.out HB.out)|(with_reducible refine Kd.aCy ?_ _)|(with_reducible refine Kd.aCx ?_ _)|(with_reducible refine Kd.aDf ?_)));(case side4=>exact bQ0.out);rintro e w21 ⟨rfl,hb⟩;refine⟨_,rfl,?_⟩;replace HB:=zK_ (aA1 zz2 hb);clear hb;refine hK.out _ _ trivial (λhHeld=>?_);clear hK K;refine aEd (a':=?_) ?_ ?_;rotate_left
   ·show Act.put _ (some 44) _=_;exact zzS
   refine zQ 12 45 (zM 15 8191) ?_
   refine zQ 13 46 (zM 15 16383) ?_
   refine zQ 14 7 (zM 15 32767) ?_
   refine aH4 (aF8 HT_.out (by kernel_rfl)) ?_;(try go_wp2);go_roundg k1;(case measure=>have:=HK1.out;omega);case rel=>exact⟨(wrap64 (cK+(wrap64 ((wrap64 (cQ*(rd (aBt l0 (rd l1 0)) dJ)))*fA)))),(wrap64 (-cQ)),(wrap64 (dJ+1)),zz6,zz6,zz6,H',⟨aHl⟩,⟨zz2⟩⟩
def aC5.l0:Nat->Int->List Int->Int->Option (List Int)
 | 0,_,_,_=>none
 | k+1,x0,x3,x4=>if 0<=x4 then(if(shr .i64 x0 x4)>0 then(if(Go.bits .and .i64 (shr .i64 x0 x4) 1)=1 then(if x3.length<17592186044416 then(aC5.l0 k x0 (x3++[x4]) (wrap64 (x4+1))) else(none)) else(aC5.l0 k x0 x3 (wrap64 (x4+1)))) else(some x3)) else(none)
def aC5.f (k:Nat) (a0:Int):Option (List Int):=aC5.l0 k a0 ([]:List Int) 0
theorem aC5.aBp:∀ k,(∀ y0 y1 y2,LeO (aC5.l0 k y0 y1 y2) (aC5.l0 (k+1) y0 y1 y2))
 | 0=>λ_ _ _ r h=>by simp[aC5.l0]at h
 | k+1=>by
  have ih0:=aC5.aBp k
  ·intro y0 y1 y2
   unfold aC5.l0
   exact zm0
theorem aC5.mono:∀ a0 k,LeO (aC5.f k a0) (aC5.f (k+1) a0):=by
 intro a0 k;have ih0:=aC5.aBp k;unfold aC5.f;exact zm0
theorem aC5.calls (k:Nat) (a0:Int) (r:List Int) (w:World) (h:aC5.f k a0=some r) :
  Calls Tryz.prog 56 #[.int .i64 a0] w λe w'=>∃ v0_:Value,e = .returned (v0_)/\Kd.R (Kd.int .i64) 3 w' w.heap.size (λ_=>True) v0_ r/\Below w.heap.size w w':=by
 have HB:=zK_ (Below.refl w.heap.size w);have H:(aC5.l0 k a0 ([]:List Int) 0)=some r:=h;clear h;have H':=zK_ H;clear H;go_enter Tryz.func56,Tryz.ntmps56;go_wp2;(go_loopg [3,4] k (λkq v3 v4 w'=>∃ (dH:List Int) (bJ:Int),v4 = .int .i64 bJ/\aA2 (aC5.l0 kq a0 dH bJ=some r)/\aA2 (kq<=k)/\aA2 (Kd.R (Kd.int .i64) 3 w' w.heap.size (λ_=>True) v3 dH)/\aA2 (Below w.heap.size w w')));case atStart=>exact⟨(([]:List Int)),(0),zz6,H',⟨Nat.le_refl _⟩,⟨aX8⟩,⟨zz2⟩⟩
 case round =>
  clear H';obtain⟨dH,bJ,rfl,HA,HK1,bY,HB⟩:=hrel
  cases gk with
  | zero=>exact absurd HA.out (by simp[aC5.l0])
  | succ k1 =>
   have H:=HA.out;clear HA;simp only[aC5.l0]at H;by_cases c2:0<=bJ;rotate_left
   ·rw[if_neg c2]at H;exact absurd H (by simp)
   rw[if_pos c2]at H;have mH:=eq_true c2;have pJ:decide (0<=bJ)=true:=zdY c2;clear c2;obtain⟨u2,vS⟩:∃ j_:Int,(shr .i64 a0 bJ)=j_:=⟨_,rfl⟩;(replace H:(if(u2)>0 then(if(Go.bits .and .i64 (u2) 1)=1 then(if dH.length<17592186044416 then(aC5.l0 k1 a0 (dH++[bJ]) (wrap64 (bJ+1))) else(none)) else(aC5.l0 k1 a0 dH (wrap64 (bJ+1)))) else(some dH))=some r:=by first|(rw[vS]at H;exact H)|(simp only[vS]at H ⊢;exact H));have QB:(a0/2^min bJ.toNat 64)=u2:=vS;have QA:bJ<=64->(a0/2^bJ.toNat)=u2:=aKj vS;by_cases c4:(u2)>0;rotate_left
   ·rw[if_neg c4]at H;have gW:decide (0<(u2))=false:=zdN c4;clear c4;obtain rfl:=zdI H;go_wp2;go_ret;exact⟨_,by first|rfl|(simp[aDs,aDr]<;>rfl)|(simp only[<-vS];first|rfl|(simp[aDs,aDr]<;>rfl))|(simp[*,aDs,aDr]<;>rfl),aLu,zz2⟩
   rw[if_pos c4]at H;have gW:decide (0<(u2))=true:=zdY c4;clear c4;have fD:=eq_true (zdT zz4:0<=bJ);by_cases c7:(Go.bits .and .i64 (u2) 1)=1;rotate_left
   ·rw[if_neg c7]at H;have gT:((Go.bits .and .i64 (u2) 1)==1)=false:=beq_eq_false_iff_ne.mpr c7;have yG:((Go.bits .and .i64 (u2) 1) != 1)=true:=bne_iff_ne.mpr c7;have H':=zK_ H;clear H;go_wp2;go_roundg k1;(case measure=>have:=HK1.out;omega);case rel=>exact⟨(dH),(wrap64 (bJ+1)),zz6,H',⟨aHl⟩,⟨aLu⟩,⟨zz2⟩⟩
   rw[if_pos c7]at H;have gT:((Go.bits .and .i64 (u2) 1)==1)=true:=beq_iff_eq.mpr c7;have yG:((Go.bits .and .i64 (u2) 1) != 1)=false:=bne_eq_false_iff_eq.mpr c7;clear c7;by_cases c8:dH.length<17592186044416;rotate_left
   ·rw[if_neg c8]at H;exact absurd H (by simp)
   rw[if_pos c8]at H;have NL:=zK_ c8;clear c8;obtain⟨sL,hy_⟩:∃ y_:List Int,y_=(dH++[bJ]):=⟨_,rfl⟩;(replace H:(aC5.l0 k1 a0 sL (wrap64 (bJ+1)))=some r:=zzY);have qJ:=zK_ hy_;clear hy_;have H':=zK_ H;clear H;(go_wp2_with (first|((with_reducible refine aBe (b:=.append) (xs:=#[.tmp 16,.tmp 18]) rfl ?_);at_builtin;refine Kd.aD5 (Kd.int .i64) (w0:=w) w.heap.size rfl (.tmp 16) (.tmp 18) 26 3 (.int .i64 0) 8 rfl Tryz.underlying26 info3 rfl (by decide) (by omega) u3 dH bJ [.int .i64 bJ] (λ_=>True) (λ_=>False) rfl rfl ?aP (λ_ hk=>hk.elim) ?aF ?aO ?aB ?aS ?aL ?_;(case aP=>exact rfl);(case aB=>exact zz2);(case aF=>exact(λ_ _=>trivial));(case aO=>exact aLu);(case aS=>exact(aAa zz2));(case aL=>have:=NL.out;omega);intro bN8 w9 ho hb hg hat;rw[<-qJ.out]at ho;have n_:=zA2 hb ho;clear HB bY;obtain⟨HB,qB⟩:=n_;clear ho hb hg hat)));go_roundg k1;(case measure=>have:=HK1.out;omega);case rel=>exact⟨(sL),(wrap64 (bJ+1)),zz6,H',⟨aHl⟩,⟨aXb⟩,⟨zz2⟩⟩
def aBz.f (k:Nat) (l0:List (List Int)):Option (Int):=(aBv.f k l0).bind λbO=>(if bO=true then((aC5.f k (wrap64 ((shl .i64 1 (l0.length:Int))-1))).bind λaQ=>((aAk.f k l0 aQ (wrap64 ((shl .i64 1 (l0.length:Int))-1))).bind λfA=>(some fA))) else(some 0))
theorem aBz.mono:∀ a0 k,LeO (aBz.f k a0) (aBz.f (k+1) a0):=by
 intro a0 k;unfold aBz.f;repeat' first|(with_reducible apply aBv.mono)|(with_reducible apply aC5.mono)|(with_reducible apply aAk.mono)|(with_reducible exact LeO.refl _)|(with_reducible exact LeO.none _)|(with_reducible refine LeO.ite ?_ ?_)|(with_reducible refine LeO.bind ?_ (λ_=>?_))|apply aBv.mono|apply aC5.mono|apply aAk.mono|exact LeO.none _|refine LeO.ite ?_ ?_|refine LeO.bind ?_ (λ_=>?_)
def aBz.T3:Bool×List (List Nat×List Nat):=(true,[([],[]),([],[]),([1],[1]),([2],[2]),([3],[3]),([4],[4]),([],[]),([6],[6]),([7],[7]),([8],[8]),([0,5,9,5],[0,5,9]),([10,10,0,1,2,3,4,5,6,7,8,9,10],[10])])
def aBz.B3:List Nat:=[0,0,2,6,14,30,0,64,192,448,1023,2047]
theorem aBz.bOf:aIo .any (opsOf Tryz.f31 3)=aBz.T3:=by kernel_rfl
theorem aBz.bH0:aFn aBz.T3.2 aBz.B3=true:=by kernel_rfl
theorem aBz.calls (k:Nat) (A0:Option Addr) (c0:Nat) (l0:List (List Int)) (r:Int) (w:World) (hr0:Kd.C (Kd.slice 3 (Kd.int .i64)) w A0 l0.length l0) (hc0:l0.length<=c0) (h:aBz.f k l0=some r) :
  Calls Tryz.prog 31 #[.slice A0 l0.length c0] w λe w'=>e = .returned (.int .i64 r)/\Below w.heap.size w w':=by
 have HR0:=zK_ hr0;have HC0:=zK_ hc0;clear hr0 hc0;have HB:=zK_ (Below.refl w.heap.size w);have H:((aBv.f k l0).bind λbO=>(if bO=true then((aC5.f k (wrap64 ((shl .i64 1 (l0.length:Int))-1))).bind λaQ=>((aAk.f k l0 aQ (wrap64 ((shl .i64 1 (l0.length:Int))-1))).bind λfA=>(some fA))) else(some 0)))=some r:=h;clear h;obtain⟨bO,A20,H⟩:=zO_ H;(try dsimp only at H);have A2:=zK_ A20;clear A20;by_cases c3:bO=true;rotate_left
 ·replace c3:=zdB c3;subst c3;rw[if_neg (show ¬ (false=true) by decide)]at H;obtain rfl:=zdI H;go_enter Tryz.func31,Tryz.ntmps31;(go_wp2_with (first|((with_reducible refine aA5 (f:=54) rfl ?_);refine aB8 (some 4) rfl rfl Tryz.func54 (by kernel_rfl) rfl #[.slice A0 l0.length c0] rfl zz3 ?_;(with_reducible refine(aBv.calls k _ _ l0 false _ ?side1 ?side2 A2.out).mono ?_);(case side1=>exact bAu);(case side2=>exact HC0.out);rintro e w' ⟨rfl,⟨nd,rfl⟩⟩;refine⟨_,rfl,?_⟩)));go_ret;exact⟨zz7,zz2⟩
 subst c3;rw[if_pos rfl]at H;obtain⟨sK,rJ⟩:∃ j_:Int,(shl .i64 1 (l0.length:Int))=j_:=⟨_,rfl⟩;(replace H:((aC5.f k (wrap64 ((sK)-1))).bind λaQ=>((aAk.f k l0 aQ (wrap64 ((sK)-1))).bind λfA=>(some fA)))=some r:=by first|(rw[rJ]at H;exact H)|(simp only[rJ]at H ⊢;exact H));(try rw[rJ]at A2);have vR:(IntKind.i64.wrap (1*2^min (l0.length:Int).toNat 64))=sK:=rJ;have vQ:(l0.length:Int)<=64->(IntKind.i64.wrap (1*2^(l0.length:Int).toNat))=sK:=aH0 rJ;have B4:(IntKind.i64.wrap (1*2^min l0.length 64))=sK:=vR;have B2:(l0.length:Int)<=64->(IntKind.i64.wrap (1*2^l0.length))=sK:=vQ;(have P9:(IntKind.i64.wrap (2^min l0.length 64))=sK:=by have h_:=B4;rw[Int.one_mul]at h_;exact h_);(have P8:(l0.length:Int)<=64->(IntKind.i64.wrap (2^l0.length))=sK:=λaTf=>by have h_:=B2 aTf;rw[Int.one_mul]at h_;exact h_);(have P7:(IntKind.i64.wrap (2^min (l0.length:Int).toNat 64))=sK:=by have h_:=vR;rw[Int.one_mul]at h_;exact h_);(have P6:(l0.length:Int)<=64->(IntKind.i64.wrap (2^(l0.length:Int).toNat))=sK:=λaTf=>by have h_:=vQ aTf;rw[Int.one_mul]at h_;exact h_);have P4:(wrap64 (1*2^min (l0.length:Int).toNat 64))=sK:=(aFm _).symm.trans vR;(have P5:(l0.length:Int)<=64->(wrap64 (1*2^(l0.length:Int).toNat))=sK:=λh_=>(aFm _).symm.trans (vQ h_));obtain⟨aQ,A50,H⟩:=zO_ H;(try dsimp only at H);have A5:=zK_ A50;clear A50;obtain⟨fA,A70,H⟩:=zO_ H;(try dsimp only at H);have A7:=zK_ A70;clear A70;obtain rfl:=zdI H;go_enter Tryz.func31,Tryz.ntmps31;(try go_wp2_with (first|((with_reducible refine aA5 (f:=54) rfl ?_);refine aB8 (some 4) rfl rfl Tryz.func54 (by kernel_rfl) rfl #[.slice A0 l0.length c0] rfl zz3 ?_;(with_reducible refine(aBv.calls k _ _ l0 true _ ?side1 ?side2 A2.out).mono ?_);(case side1=>exact bAu);(case side2=>exact HC0.out);rintro e w' ⟨rfl,⟨nd,rfl⟩⟩;refine⟨_,rfl,?_⟩)));replace HB:=zK_ (aAx (aAs HB.out nd));refine aFp (n:=12) (S:=λw'=>True) (ds:=[]) (zM 12 0) (by kernel_rfl) rfl rfl trivial (λhHeld=>?_);refine aE1 aBz.bOf aBz.bH0 (λHT_ HW_=>?_);generalize (w.drewN nd).drew=w8 at HB hHeld ⊢;refine zQ 0 6 (zM 12 1) ?_
 refine zQ 1 7 (zM 12 3) ?_
 refine zQ 2 8 (zM 12 7) ?_
 refine zQ 3 9 (zM 12 15) ?_
 refine zQ 4 10 (zM 12 31) ?_
 refine zQ 6 12 (zM 12 95) ?_
 refine zQ 7 13 (zM 12 223) ?_
 refine zQ 8 14 (zM 12 479) ?_
 refine zQ 9 15 (zM 12 991) ?_
 refine aHv (i:=5) (N:=some 11) (zM 12 1023) rfl rfl (aE3 HT_.out (by kernel_rfl)) (by decide) (λK hK=>?_);refine aG5 Tryz.func56 (by kernel_rfl) rfl #[.int .i64 (wrap64 ((sK)-1))] (by rfl) rfl rfl (by(try simp only[List.map_toArray,List.map_cons,List.map_nil]);first|done|(simp only[rJ];rfl)|rfl|(simp only[List.length_drop,List.length_take];rfl)) ?_;(with_reducible refine(aC5.calls k (wrap64 ((sK)-1)) aQ _ A5.out).mono ?_);rintro e w9 ⟨aXr,rfl,ho0,hb⟩;refine⟨_,rfl,?_⟩;have n_:=zA2 (Kd.aCn ho0 (aAa zz2)) (aA1 zz2 hb);clear HB;obtain⟨dD,HB⟩:=n_;clear ho0 hb;obtain⟨bQd,bLn,qE⟩:=Kd.aBr dD.out;(first|subst qE|(injection qE with f1_ f2_ f3_;have f4_:=f1_.symm;have f5_:=f3_.symm;clear f1_ f2_ f3_;subst f4_;subst f5_));refine hK.out _ _ trivial (λhHeld=>?_);clear hK K;refine aEd (a':=?_) ?_ ?_;rotate_left
 ·show Act.put _ (some 11) _=_;exact zzS
 refine aHv (i:=10) (N:=some 16) (zM 12 2047) rfl rfl (aE3 HT_.out (by kernel_rfl)) (by decide) (λK hK=>?_);refine aG5 Tryz.func55 (by kernel_rfl) rfl #[.slice A0 l0.length c0,.slice bQd aQ.length bLn,.int .i64 (wrap64 ((sK)-1))] (by rfl) rfl rfl (by(try simp only[List.map_toArray,List.map_cons,List.map_nil]);first|done|(simp only[rJ];rfl)|rfl|(simp only[List.length_drop,List.length_take];rfl)) ?_;(with_reducible refine(aAk.calls k _ _ l0 _ _ aQ (wrap64 ((sK)-1)) fA _ ?side1 ?side2 ?side3 ?side4 A7.out).mono ?_);(case side1=>exact aXm);(case side2=>exact HC0.out);(case side3=>exact bHu);(case side4=>exact(Kd.aAl dD.out).2.1);rintro e w11 ⟨rfl,hb⟩;refine⟨_,rfl,?_⟩;have n_:=zA2 (Kd.aBn aOs hb) (aA1 zz2 hb);clear dD HB;obtain⟨dD,HB⟩:=n_;clear hb;refine hK.out _ _ trivial (λhHeld=>?_);clear hK K;refine aEd (a':=?_) ?_ ?_;rotate_left
 ·show Act.put _ (some 16) _=_;exact zzS
 refine zQ 11 2 (zM 12 4095) ?_
 refine aH4 (aF8 HT_.out (by kernel_rfl)) ?_;(try go_wp2);go_ret;exact⟨by first|rfl|(simp[aDs,aDr]<;>rfl)|(simp only[<-rJ];first|rfl|(simp[aDs,aDr]<;>rfl))|(simp[*,aDs,aDr]<;>rfl),zz2⟩
def aCj.f (aD:Int) (aC:List (S46)) (a1:Int):Option (Bool):=(aCq.f aD aC).bind λaQ=>(if aQ=true then((aDh.f a1 0 (wrap64 (aD-1))).bind λa6=>(some a6)) else(some false))
theorem aCj.calls (aD:Int) (aH:Option Addr) (aG:Nat) (aC:List (S46)) (a1:Int) (r:Bool) (w:World) (hr0_1:Kd.C k46 w aH aC.length aC) (hc0_1:aC.length<=aG) (h:aCj.f aD aC a1=some r) :
  Calls Tryz.prog 22 #[.agg #[.int .i64 aD,.slice aH aC.length aG],.int .i64 a1] w λe w'=>e = .returned (.bool r)/\Below w.heap.size w w':=by
 have aI5:=Tryz.underlying25;have b3:=zK_ hr0_1;have bE:=zK_ hc0_1;clear hr0_1 hc0_1;have HB:=zK_ (Below.refl w.heap.size w);have H:((aCq.f aD aC).bind λaQ=>(if aQ=true then((aDh.f a1 0 (wrap64 (aD-1))).bind λa6=>(some a6)) else(some false)))=some r:=h;clear h;obtain⟨aQ,A30,H⟩:=zO_ H;(try dsimp only at H);have A3:=zK_ A30;clear A30;by_cases c4:aQ=true;rotate_left
 ·replace c4:=zdB c4;subst c4;rw[if_neg (show ¬ (false=true) by decide)]at H;obtain rfl:=zdI H;go_enter Tryz.func22,Tryz.ntmps22;(go_wp2_with (first|((with_reducible refine aAj (N:=2) rfl ?_);refine aAf ?hg (N:=2) ?hd (cs:=#[.int .i64 aD,.slice aH aC.length aG]) (t:=25) ?hr ?_;(case hd=>rfl);(case hg=>rfl);(case hr=>exact aD9);intro aE hg w10 hbox hb;have n_:=zA4 (aA1 zz2 hb) hbox (aDl:w.heap.size<=aE) (aDl:w.heap.size<=aE);clear HB;obtain⟨HB,aA,aDd,aD2⟩:=n_;clear hb hbox hg;have mG:=aCe aA;have mF:=aCd aA;have mA:=aA0 aA.out 0;have l9:=aA0 aA.out 1)|((with_reducible refine aA5 (f:=30) rfl ?_);refine aB8 (some 6) rfl rfl Tryz.func30 (by kernel_rfl) rfl #[.agg #[.int .i64 aD,.slice aH aC.length aG]] rfl zz3 ?_;(with_reducible refine(aCq.calls aD _ _ aC false _ ?side1 ?side2 A3.out).mono ?_);(case side1=>exact zz5);(case side2=>exact bE.out);rintro e w12 ⟨rfl,hb⟩;refine⟨_,rfl,?_⟩;have n_:=zA2 (aA4 (g:=aE) (o:=.cells #[.int .i64 aD,.slice aH aC.length aG] 25 (0,0)) zz1 hb) (aA1 zz0 hb);clear aA HB;obtain⟨aA,HB⟩:=n_;clear hb)));go_ret;exact⟨zz7,zz0⟩
 subst c4;rw[if_pos rfl]at H;obtain⟨a6,A50,H⟩:=zO_ H;(try dsimp only at H);have A5:=zK_ A50;clear A50;obtain rfl:=zdI H;go_enter Tryz.func22,Tryz.ntmps22;(go_wp2_with (first|((with_reducible refine aAj (N:=2) rfl ?_);refine aAf ?hg (N:=2) ?hd (cs:=#[.int .i64 aD,.slice aH aC.length aG]) (t:=25) ?hr ?_;(case hd=>rfl);(case hg=>rfl);(case hr=>exact aD9);intro aE hg w6 hbox hb;have n_:=zA4 (aA1 zz2 hb) hbox (aDl:w.heap.size<=aE) (aDl:w.heap.size<=aE);clear HB;obtain⟨HB,aA,aDd,aD2⟩:=n_;clear hb hbox hg;have gO:=aCe aA;have gN:=aCd aA;have gM:=aA0 aA.out 0;have gK:=aA0 aA.out 1)|((with_reducible refine aA5 (f:=30) rfl ?_);refine aB8 (some 6) rfl rfl Tryz.func30 (by kernel_rfl) rfl #[.agg #[.int .i64 aD,.slice aH aC.length aG]] rfl zz3 ?_;(with_reducible refine(aCq.calls aD _ _ aC true _ ?side1 ?side2 A3.out).mono ?_);(case side1=>exact zz5);(case side2=>exact bE.out);rintro e w8 ⟨rfl,hb⟩;refine⟨_,rfl,?_⟩;have n_:=zA2 (aA4 (g:=aE) (o:=.cells #[.int .i64 aD,.slice aH aC.length aG] 25 (0,0)) zz1 hb) (aA1 zz0 hb);clear aA HB;obtain⟨aA,HB⟩:=n_;clear hb;have g6:=aCe aA;have g5:=aCd aA;have g4:=aA0 aA.out 0;have g3:=aA0 aA.out 1)|(go_at_call 42;(with_reducible refine(aDh.calls a1 0 (wrap64 (aD-1)) a6 _ A5.out).mono ?_);rintro e w' ⟨rfl,⟨nd,rfl⟩⟩)));go_ret;exact⟨zz7,zz0⟩
mutual
def aAq.j0:Nat->Int->Bool->Int->List (S46)->Option (Int)
 | 0,_,_,_,_=>none
 | k+1,x1,nO,aY,aW=>if nO=true then(some 0) else(aAq.l0 k x1 0 aW (aW.length:Int) 0)
def aAq.l0:Nat->Int->Int->List (S46)->Int->Int->Option (Int)
 | 0,_,_,_,_,_=>none
 | k+1,x1,x5,mP,mJ,sO=>if sO<mJ then(if 0<=sO then(if sO<(mP.length:Int) then(if((aA3 mP sO).f0)=x1 then(aAq.l0 k x1 (wrap64 (x5+1)) mP mJ (wrap64 (sO+1))) else(if((aA3 mP sO).f1)=x1 then(aAq.l0 k x1 (wrap64 (x5+1)) mP mJ (wrap64 (sO+1))) else(aAq.l0 k x1 x5 mP mJ (wrap64 (sO+1))))) else(none)) else(none)) else(some x5)
end
def aAq.f (k:Nat) (aD:Int) (aC:List (S46)) (a1:Int):Option (Int):=if a1<0 then(aAq.j0 k a1 true aD aC) else(aAq.j0 k a1 (decide (a1≥aD)) aD aC)
theorem aAq.aBp:∀ k,(∀ y0 y1 y2 y3,LeO (aAq.j0 k y0 y1 y2 y3) (aAq.j0 (k+1) y0 y1 y2 y3))/\(∀ y0 y1 y2 y3 y4,LeO (aAq.l0 k y0 y1 y2 y3 y4) (aAq.l0 (k+1) y0 y1 y2 y3 y4))
 | 0=>⟨λ_ _ _ _ r h=>by simp[aAq.j0]at h,λ_ _ _ _ _ r h=>by simp[aAq.l0]at h⟩
 | k+1=>by
  obtain⟨ih0,ih1⟩:=aAq.aBp k
  refine⟨?_,?_⟩
  ·intro y0 y1 y2 y3
   unfold aAq.j0
   exact zm1
  ·intro y0 y1 y2 y3 y4
   unfold aAq.l0
   exact zm1
theorem aAq.mono:∀ a0 a1 a2 k,LeO (aAq.f k a0 a1 a2) (aAq.f (k+1) a0 a1 a2):=by
 intro a0 a1 a2 k;obtain⟨ih0,ih1⟩:=aAq.aBp k;unfold aAq.f;exact zm1
theorem aAq.calls (k:Nat) (aD:Int) (aH:Option Addr) (aG:Nat) (aC:List (S46)) (a1:Int) (r:Int) (w:World) (hr0_1:Kd.C k46 w aH aC.length aC) (hc0_1:aC.length<=aG) (h:aAq.f k aD aC a1=some r) :
  Calls Tryz.prog 35 #[.agg #[.int .i64 aD,.slice aH aC.length aG],.int .i64 a1] w λe w'=>e = .returned (.int .i64 r)/\Below w.heap.size w w':=by
 have aI5:=Tryz.underlying25;have aV7:=Tryz.underlying46;have b3:=zK_ hr0_1;have bE:=zK_ hc0_1;clear hr0_1 hc0_1;have HB:=zK_ (Below.refl w.heap.size w);have H:(if a1<0 then(aAq.j0 k a1 true aD aC) else(aAq.j0 k a1 (decide (a1≥aD)) aD aC))=some r:=h;clear h;have HC3:=zK_ H;clear H;go_enter Tryz.func35,Tryz.ntmps35;(go_upto_region 1 with (first|((with_reducible refine aAj (N:=2) rfl ?_);refine aAf ?hg (N:=2) ?hd (cs:=#[.int .i64 aD,.slice aH aC.length aG]) (t:=25) ?hr ?_;(case hd=>rfl);(case hg=>rfl);(case hr=>exact aD9);intro aE hg w4 hbox hb;have n_:=zA4 (aA1 zz2 hb) hbox (aDl:w.heap.size<=aE) (aDl:w.heap.size<=aE);clear HB;obtain⟨HB,aA,aDd,aD2⟩:=n_;clear hb hbox hg)));(try simp only[Act.put,List.setIfInBounds_toArray,List.set_cons_zero,List.set_cons_succ]);go_cut [15] (λv15 wc=>∃ (kq:Nat) (tH:Bool),v15 = .bool tH/\aA2 (aAq.j0 kq a1 tH aD aC=some r)/\aA2 (kq<=k)/\aA2 (wc.heap[aE]? = some (.cells #[.int .i64 aD,(.slice aH aC.length aG)] 25 (0,0)))/\aA2 (Below w.heap.size w wc))
 case first =>
  have H:=HC3.out;clear HC3;by_cases c5:a1<0
  ·rw[if_pos c5]at H;have fD:=zdY c5;clear c5;(first|rw[fD]|(simp only[aFm,aMb];rw[fD])|skip);have H':=zK_ H;clear H;go_wp2;(go_meet);case rel=>exact⟨_,(true),zz6,H',⟨by first|omega|exact Nat.le_refl _⟩,⟨zz1⟩,⟨zz0⟩⟩
  rw[if_neg c5]at H;have fD:=zdN c5;clear c5;(first|rw[fD]|(simp only[aFm,aMb];rw[fD])|skip);have H':=zK_ H;clear H;have j9:=aCe aA;have j8:=aCd aA;have j5:=aA0 aA.out 0;have j4:=aA0 aA.out 1;go_wp2;(go_meet);case rel=>exact⟨_,(decide (a1≥aD)),zz6,H',⟨by first|omega|exact Nat.le_refl _⟩,⟨zz1⟩,⟨zz0⟩⟩
 case rest =>
  clear HC3;(try clear p2);(try clear c3);(try clear c5);(try clear fD);(try clear j9);(try clear j8);(try clear j5);(try clear j4);obtain⟨kq,tH,rfl,HA,HJ2,aA,HB⟩:=hcut
  cases kq with
  | zero=>exact absurd HA.out (by simp[aAq.j0])
  | succ kj2 =>
   have H:=HA.out;clear HA;simp only[aAq.j0]at H;by_cases c7:tH=true
   ·subst c7;rw[if_pos rfl]at H;obtain rfl:=zdI H;go_wp2;go_ret;exact⟨zz7,zz0⟩
   replace c7:=zdB c7;subst c7;rw[if_neg (show ¬ (false=true) by decide)]at H;have H':=zK_ H;clear H;have j7:=aCe aA;have j6:=aCd aA;have j3:=aA0 aA.out 0;have j1:=aA0 aA.out 1;go_wp2;(go_loopg [5,19] kj2 (λkq v5 v19 w'=>∃ (dY:Int) (fS:Int),v5 = .int .i64 dY/\v19 = .int .i64 fS/\aA2 (aAq.l0 kq a1 dY aC (aC.length:Int) fS=some r)/\aA2 (kq<=kj2)/\aA2 (w'.heap[aE]? = some (.cells #[.int .i64 aD,(.slice aH aC.length aG)] 25 (0,0)))/\aA2 (Below w.heap.size w w')));case atStart=>exact⟨(0),(0),zz6,zz6,H',⟨Nat.le_refl _⟩,⟨zz1⟩,⟨zz0⟩⟩
   case round =>
    clear H';(try clear p2);(try clear c3);(try clear c5);(try clear fD);(try clear c7);(try clear j9);(try clear j8);(try clear j7);(try clear j6);(try clear j5);(try clear j4);(try clear j3);(try clear j1);(try clear p2);obtain⟨dY,fS,rfl,rfl,HA,HK2,aA,HB⟩:=hrel
    cases gk with
    | zero=>exact absurd HA.out (by simp[aAq.l0])
    | succ k2 =>
     have H:=HA.out;clear HA;simp only[aAq.l0]at H;by_cases c9:fS<(aC.length:Int);rotate_left
     ·rw[if_neg c9]at H;have iN:=zdN c9;clear c9;obtain rfl:=zdI H;go_wp2;go_ret;exact⟨zz7,zz0⟩
     rw[if_pos c9]at H;have iN:=zdY c9;clear c9;by_cases c10:0<=fS;rotate_left
     ·rw[if_neg c10]at H;exact absurd H (by simp)
     rw[if_pos c10]at H;have fV:=zdY c10;clear c10;by_cases c11:fS<(aC.length:Int);rotate_left
     ·rw[if_neg c11]at H;exact absurd H (by simp)
     rw[if_pos c11]at H;have nJ:=zdY c11;clear c11;by_cases c12:((aA3 aC fS).f0)=a1
     ·rw[if_pos c12]at H;have nI:(((aA3 aC fS).f0)==a1)=true:=beq_iff_eq.mpr c12;have sB:(((aA3 aC fS).f0) != a1)=false:=bne_eq_false_iff_eq.mpr c12;clear c12;have H':=zK_ H;clear H;have aEk:0<=(fS:Int):=zdT zz4;have aEj:fS<(aC.length:Int):=zdT zz4;obtain⟨dQ,aGt,bK,dP⟩:=aDo b3.out fS aEk aEj;cases aGt;replace bK:=(HB.out.cell (World.block_lt_of_cell? w _ bK)).trans bK;replace dP:=(HB.out.cell (World.block_lt_of_cell? w _ dP)).trans dP;replace aEk:=eq_true aEk;replace aEj:=eq_true aEj;(go_wp2_with (first|((with_reducible refine aAj (N:=7) rfl ?_);refine aAf ?hg (N:=7) ?hd (cs:=#[.int .i64 0,.int .i64 0]) (t:=46) ?hr ?_;(case hd=>rfl);(case hg=>rfl);(case hr=>exact aD9);intro cG hg w13 hbox hb;have n_:=zA7 (aA4 (g:=aE) (o:=.cells #[.int .i64 aD,.slice (some dQ) aC.length aG] 25 (0,0)) zz1 hb) (aA1 zz0 hb) hbox (aFw:w.heap.size<=cG) (aFw:w.heap.size<=cG) (bB8:aE≠cG) (bB7:cG≠aE);clear aA HB;obtain⟨aA,HB,b0,aMc,aMd,dN,dZ⟩:=n_;clear hb hbox hg;have tP:=dZ.out;have tO:=dN.out;have fR:=aCe b0;have fQ:=aCd b0;have fP:=aA0 b0.out 0;have fO:=aA0 b0.out 1)));go_roundg k2;(case measure=>have:=HJ2.out;have:=HK2.out;omega);case rel=>exact⟨(wrap64 (dY+1)),(wrap64 (fS+1)),zz6,zz6,H',⟨by have:=HJ2.out;have:=HK2.out;omega⟩,⟨bB9⟩,⟨aX9⟩⟩
     rw[if_neg c12]at H;have nI:(((aA3 aC fS).f0)==a1)=false:=beq_eq_false_iff_ne.mpr c12;have sB:(((aA3 aC fS).f0) != a1)=true:=bne_iff_ne.mpr c12;by_cases c16:((aA3 aC fS).f1)=a1;rotate_left
     ·rw[if_neg c16]at H;have mS:(((aA3 aC fS).f1)==a1)=false:=beq_eq_false_iff_ne.mpr c16;have uT:(((aA3 aC fS).f1) != a1)=true:=bne_iff_ne.mpr c16;have H':=zK_ H;clear H;have aEk:0<=(fS:Int):=zdT zz4;have aEj:fS<(aC.length:Int):=zdT zz4;obtain⟨dQ,aGt,bK,dP⟩:=aDo b3.out fS aEk aEj;cases aGt;replace bK:=(HB.out.cell (World.block_lt_of_cell? w _ bK)).trans bK;replace dP:=(HB.out.cell (World.block_lt_of_cell? w _ dP)).trans dP;replace aEk:=eq_true aEk;replace aEj:=eq_true aEj;(go_wp2_with (first|((with_reducible refine aAj (N:=7) rfl ?_);refine aAf ?hg (N:=7) ?hd (cs:=#[.int .i64 0,.int .i64 0]) (t:=46) ?hr ?_;(case hd=>rfl);(case hg=>rfl);(case hr=>exact aD9);intro cG hg w20 hbox hb;have n_:=zA7 (aA4 (g:=aE) (o:=.cells #[.int .i64 aD,.slice (some dQ) aC.length aG] 25 (0,0)) zz1 hb) (aA1 zz0 hb) hbox (aFw:w.heap.size<=cG) (aFw:w.heap.size<=cG) (bB8:aE≠cG) (bB7:cG≠aE);clear aA HB;obtain⟨aA,HB,b0,aMc,aMd,dN,dZ⟩:=n_;clear hb hbox hg;have BZ:=dZ.out;have BI:=dN.out;have lC:=aCe b0;have lB:=aCd b0;have lA:=aA0 b0.out 0;have k9:=aA0 b0.out 1)));go_roundg k2;(case measure=>have:=HJ2.out;have:=HK2.out;omega);case rel=>exact⟨(dY),(wrap64 (fS+1)),zz6,zz6,H',⟨by have:=HJ2.out;have:=HK2.out;omega⟩,⟨bB9⟩,⟨aX9⟩⟩
     rw[if_pos c16]at H;have mS:(((aA3 aC fS).f1)==a1)=true:=beq_iff_eq.mpr c16;have uT:(((aA3 aC fS).f1) != a1)=false:=bne_eq_false_iff_eq.mpr c16;clear c16;have H':=zK_ H;clear H;have aEk:0<=(fS:Int):=zdT zz4;have aEj:fS<(aC.length:Int):=zdT zz4;obtain⟨dQ,aGt,bK,dP⟩:=aDo b3.out fS aEk aEj;cases aGt;replace bK:=(HB.out.cell (World.block_lt_of_cell? w _ bK)).trans bK;replace dP:=(HB.out.cell (World.block_lt_of_cell? w _ dP)).trans dP;replace aEk:=eq_true aEk;replace aEj:=eq_true aEj;(go_wp2_with (first|((with_reducible refine aAj (N:=7) rfl ?_);refine aAf ?hg (N:=7) ?hd (cs:=#[.int .i64 0,.int .i64 0]) (t:=46) ?hr ?_;(case hd=>rfl);(case hg=>rfl);(case hr=>exact aD9);intro cG hg w17 hbox hb;have n_:=zA7 (aA4 (g:=aE) (o:=.cells #[.int .i64 aD,.slice (some dQ) aC.length aG] 25 (0,0)) zz1 hb) (aA1 zz0 hb) hbox (aFw:w.heap.size<=cG) (aFw:w.heap.size<=cG) (bB8:aE≠cG) (bB7:cG≠aE);clear aA HB;obtain⟨aA,HB,b0,aMc,aMd,dN,dZ⟩:=n_;clear hb hbox hg;have rG:=dZ.out;have rE:=dN.out;have i8:=aCe b0;have i7:=aCd b0;have iX:=aA0 b0.out 0;have iW:=aA0 b0.out 1)));go_roundg k2;(case measure=>have:=HJ2.out;have:=HK2.out;omega);case rel=>exact⟨(wrap64 (dY+1)),(wrap64 (fS+1)),zz6,zz6,H',⟨by have:=HJ2.out;have:=HK2.out;omega⟩,⟨bB9⟩,⟨aX9⟩⟩
mutual
def aAe.j0:Nat->Int->Int->Bool->Int->List (S46)->Option (Int)
 | 0,_,_,_,_,_=>none
 | k+1,x1,x2,vH,aY,aW=>if vH=true then(some 0) else(aAe.l0 k x1 x2 0 aW (aW.length:Int) 0)
def aAe.l0:Nat->Int->Int->Int->List (S46)->Int->Int->Option (Int)
 | 0,_,_,_,_,_,_=>none
 | k+1,x1,x2,x7,sN,F6,yJ=>if yJ<F6 then(if 0<=yJ then(if yJ<(sN.length:Int) then(if((aA3 sN yJ).f0)=(mn x1 x2) then(if((aA3 sN yJ).f1)=(mx x1 x2) then(aAe.l0 k x1 x2 (wrap64 (x7+1)) sN F6 (wrap64 (yJ+1))) else(aAe.l0 k x1 x2 x7 sN F6 (wrap64 (yJ+1)))) else(aAe.l0 k x1 x2 x7 sN F6 (wrap64 (yJ+1)))) else(none)) else(none)) else(some x7)
end
def aAe.f (k:Nat) (aD:Int) (aC:List (S46)) (a1:Int) (a2:Int):Option (Int):=if(mn a1 a2)<0 then(aAe.j0 k a1 a2 true aD aC) else(if(mx a1 a2)≥aD then(aAe.j0 k a1 a2 true aD aC) else(aAe.j0 k a1 a2 (a1==a2) aD aC))
theorem aAe.aBp:∀ k,(∀ y0 y1 y2 y3 y4,LeO (aAe.j0 k y0 y1 y2 y3 y4) (aAe.j0 (k+1) y0 y1 y2 y3 y4))/\(∀ y0 y1 y2 y3 y4 y5,LeO (aAe.l0 k y0 y1 y2 y3 y4 y5) (aAe.l0 (k+1) y0 y1 y2 y3 y4 y5))
 | 0=>⟨λ_ _ _ _ _ r h=>by simp[aAe.j0]at h,λ_ _ _ _ _ _ r h=>by simp[aAe.l0]at h⟩
 | k+1=>by
  obtain⟨ih0,ih1⟩:=aAe.aBp k
  refine⟨?_,?_⟩
  ·intro y0 y1 y2 y3 y4
   unfold aAe.j0
   exact zm1
  ·intro y0 y1 y2 y3 y4 y5
   unfold aAe.l0
   exact zm1
theorem aAe.mono:∀ a0 a1 a2 a3 k,LeO (aAe.f k a0 a1 a2 a3) (aAe.f (k+1) a0 a1 a2 a3):=by
 intro a0 a1 a2 a3 k;obtain⟨ih0,ih1⟩:=aAe.aBp k;unfold aAe.f;exact zm1
theorem aAe.calls (k:Nat) (aD:Int) (aH:Option Addr) (aG:Nat) (aC:List (S46)) (a1:Int) (a2:Int) (r:Int) (w:World) (hr0_1:Kd.C k46 w aH aC.length aC) (hc0_1:aC.length<=aG) (h:aAe.f k aD aC a1 a2=some r) :
  Calls Tryz.prog 72 #[.agg #[.int .i64 aD,.slice aH aC.length aG],.int .i64 a1,.int .i64 a2] w λe w'=>e = .returned (.int .i64 r)/\Below w.heap.size w w':=by
 have aI5:=Tryz.underlying25;have aV7:=Tryz.underlying46;have b3:=zK_ hr0_1;have bE:=zK_ hc0_1;clear hr0_1 hc0_1;have HB:=zK_ (Below.refl w.heap.size w);have H:(if(mn a1 a2)<0 then(aAe.j0 k a1 a2 true aD aC) else(if(mx a1 a2)≥aD then(aAe.j0 k a1 a2 true aD aC) else(aAe.j0 k a1 a2 (a1==a2) aD aC)))=some r:=h;clear h;have HC4:=zK_ H;clear H;go_enter Tryz.func72,Tryz.ntmps72;(go_upto_region 1 with (first|((with_reducible refine aAj (N:=3) rfl ?_);(try(refine aC1 (by rfl) ?_;dsimp only));refine aAf ?hg (N:=3) ?hd (cs:=#[.int .i64 aD,.slice aH aC.length aG]) (t:=25) ?hr ?_;(case hd=>rfl);(case hg=>rfl);(case hr=>exact aD9);intro aE hg w5 hbox hb;have n_:=zA4 (aA1 zz2 hb) hbox (aDl:w.heap.size<=aE) (aDl:w.heap.size<=aE);clear HB;obtain⟨HB,aA,aDd,aD2⟩:=n_;clear hb hbox hg)));(try simp only[Act.put,List.setIfInBounds_toArray,List.set_cons_zero,List.set_cons_succ]);go_cut [26] (λv26 wc=>∃ (kq:Nat) (tE:Bool),v26 = .bool tE/\aA2 (aAe.j0 kq a1 a2 tE aD aC=some r)/\aA2 (kq<=k)/\aA2 (wc.heap[aE]? = some (.cells #[.int .i64 aD,(.slice aH aC.length aG)] 25 (0,0)))/\aA2 (Below w.heap.size w wc))
 case first =>
  have H:=HC4.out;clear HC4;obtain⟨JG,zS⟩:∃ j_:Int,(mn a1 a2)=j_:=⟨_,rfl⟩;(replace H:(if(JG)<0 then(aAe.j0 k a1 a2 true aD aC) else(if(mx a1 a2)≥aD then(aAe.j0 k a1 a2 true aD aC) else(aAe.j0 k a1 a2 (a1==a2) aD aC)))=some r:=by first|(rw[zS]at H;exact H)|(simp only[zS]at H ⊢;exact H));have P3:(if a2<a1 then a2 else a1)=JG:=zS;by_cases c7:(JG)<0
  ·rw[if_pos c7]at H;have gT:=zdY c7;clear c7;(first|rw[gT]|(simp only[aFm,aMb];rw[gT])|skip);have H':=zK_ H;clear H;go_wp2;(go_meet);case rel=>exact⟨_,(true),zz6,H',⟨by first|omega|exact Nat.le_refl _⟩,⟨zz1⟩,⟨zz0⟩⟩
  rw[if_neg c7]at H;have gT:=zdN c7;clear c7;(first|rw[gT]|(simp only[aFm,aMb];rw[gT])|skip);obtain⟨tK,rI⟩:∃ j_:Int,(mx a1 a2)=j_:=⟨_,rfl⟩;(replace H:(if(tK)≥aD then(aAe.j0 k a1 a2 true aD aC) else(aAe.j0 k a1 a2 (a1==a2) aD aC))=some r:=by first|(rw[rI]at H;exact H)|(simp only[rI]at H ⊢;exact H));have B0:(if a1<a2 then a2 else a1)=tK:=rI;by_cases c9:(tK)≥aD
  ·rw[if_pos c9]at H;have iN:decide (aD<=(tK))=true:=zdY c9;clear c9;have H':=zK_ H;clear H;have eW:=aCe aA;have eV:=aCd aA;have eT:=aA0 aA.out 0;have eS:=aA0 aA.out 1;go_wp2;(go_meet);case rel=>exact⟨_,(true),zz6,H',⟨by first|omega|exact Nat.le_refl _⟩,⟨zz1⟩,⟨zz0⟩⟩
  rw[if_neg c9]at H;have iN:decide (aD<=(tK))=false:=zdN c9;clear c9;have H':=zK_ H;clear H;have mG:=aCe aA;have mF:=aCd aA;have mA:=aA0 aA.out 0;have l9:=aA0 aA.out 1;go_wp2;(go_meet);case rel=>exact⟨_,((a1==a2)),zz6,H',⟨by first|omega|exact Nat.le_refl _⟩,⟨zz1⟩,⟨zz0⟩⟩
 case rest =>
  clear HC4;(try clear p2);(try clear c7);(try clear gT);(try clear c9);(try clear iN);(try clear eW);(try clear eV);(try clear mG);(try clear mF);(try clear eT);(try clear eS);(try clear mA);(try clear l9);obtain⟨kq,tE,rfl,HA,HJ3,aA,HB⟩:=hcut
  cases kq with
  | zero=>exact absurd HA.out (by simp[aAe.j0])
  | succ kj3 =>
   have H:=HA.out;clear HA;simp only[aAe.j0]at H;by_cases c12:tE=true
   ·subst c12;rw[if_pos rfl]at H;obtain rfl:=zdI H;go_wp2;go_ret;exact⟨zz7,zz0⟩
   replace c12:=zdB c12;subst c12;rw[if_neg (show ¬ (false=true) by decide)]at H;have H':=zK_ H;clear H;have kF:=aCe aA;have kE:=aCd aA;have kD:=aA0 aA.out 0;have kC:=aA0 aA.out 1;go_wp2;(go_loopg [7,30] kj3 (λkq v7 v30 w'=>∃ (kW:Int) (eH:Int),v7 = .int .i64 kW/\v30 = .int .i64 eH/\aA2 (aAe.l0 kq a1 a2 kW aC (aC.length:Int) eH=some r)/\aA2 (kq<=kj3)/\aA2 (w'.heap[aE]? = some (.cells #[.int .i64 aD,(.slice aH aC.length aG)] 25 (0,0)))/\aA2 (Below w.heap.size w w')));case atStart=>exact⟨(0),(0),zz6,zz6,H',⟨Nat.le_refl _⟩,⟨zz1⟩,⟨zz0⟩⟩
   case round =>
    clear H';(try clear c1);(try clear p2);(try clear c7);(try clear gT);(try clear c9);(try clear iN);(try clear c12);(try clear eW);(try clear eV);(try clear mG);(try clear mF);(try clear kF);(try clear kE);(try clear eT);(try clear eS);(try clear mA);(try clear l9);(try clear kD);(try clear kC);(try clear p2);obtain⟨kW,eH,rfl,rfl,HA,HK2,aA,HB⟩:=hrel
    cases gk with
    | zero=>exact absurd HA.out (by simp[aAe.l0])
    | succ k2 =>
     have H:=HA.out;clear HA;simp only[aAe.l0]at H;by_cases c14:eH<(aC.length:Int);rotate_left
     ·rw[if_neg c14]at H;have kJ:=zdN c14;clear c14;obtain rfl:=zdI H;go_wp2;go_ret;exact⟨zz7,zz0⟩
     rw[if_pos c14]at H;have kJ:=zdY c14;clear c14;by_cases c15:0<=eH;rotate_left
     ·rw[if_neg c15]at H;exact absurd H (by simp)
     rw[if_pos c15]at H;have mK:=zdY c15;clear c15;by_cases c16:eH<(aC.length:Int);rotate_left
     ·rw[if_neg c16]at H;exact absurd H (by simp)
     rw[if_pos c16]at H;have mS:=zdY c16;clear c16;obtain⟨fB,jO⟩:∃ j_:Int,(mn a1 a2)=j_:=⟨_,rfl⟩;(replace H:(if((aA3 aC eH).f0)=(fB) then(if((aA3 aC eH).f1)=(mx a1 a2) then(aAe.l0 k2 a1 a2 (wrap64 (kW+1)) aC (aC.length:Int) (wrap64 (eH+1))) else(aAe.l0 k2 a1 a2 kW aC (aC.length:Int) (wrap64 (eH+1)))) else(aAe.l0 k2 a1 a2 kW aC (aC.length:Int) (wrap64 (eH+1))))=some r:=by first|(rw[jO]at H;exact H)|(simp only[jO]at H ⊢;exact H));have qW:(if a2<a1 then a2 else a1)=fB:=jO;by_cases c18:((aA3 aC eH).f0)=(fB);rotate_left
     ·rw[if_neg c18]at H;have oH:(((aA3 aC eH).f0)==(fB))=false:=beq_eq_false_iff_ne.mpr c18;have uS:(((aA3 aC eH).f0) != (fB))=true:=bne_iff_ne.mpr c18;have H':=zK_ H;clear H;have aEk:0<=(eH:Int):=zdT zz4;have aEj:eH<(aC.length:Int):=zdT zz4;obtain⟨dQ,aGt,bK,dP⟩:=aDo b3.out eH aEk aEj;cases aGt;replace bK:=(HB.out.cell (World.block_lt_of_cell? w _ bK)).trans bK;replace dP:=(HB.out.cell (World.block_lt_of_cell? w _ dP)).trans dP;replace aEk:=eq_true aEk;replace aEj:=eq_true aEj;(go_wp2_with (first|((with_reducible refine aAj (N:=9) rfl ?_);(try(refine aC1 (by rfl) ?_;dsimp only));refine aAf ?hg (N:=9) ?hd (cs:=#[.int .i64 0,.int .i64 0]) (t:=46) ?hr ?_;(case hd=>rfl);(case hg=>rfl);(case hr=>exact aD9);intro cG hg w27 hbox hb;have n_:=zA7 (aA4 (g:=aE) (o:=.cells #[.int .i64 aD,.slice (some dQ) aC.length aG] 25 (0,0)) zz1 hb) (aA1 zz0 hb) hbox (aFw:w.heap.size<=cG) (aFw:w.heap.size<=cG) (bB8:aE≠cG) (bB7:cG≠aE);clear aA HB;obtain⟨aA,HB,b0,aMc,aMd,dN,dZ⟩:=n_;clear hb hbox hg;have BW:=dZ.out;have BF:=dN.out;have nA:=aCe b0;have m9:=aCd b0;have m4:=aA0 b0.out 0;have m3:=aA0 b0.out 1)));go_roundg k2;(case measure=>have:=HJ3.out;have:=HK2.out;omega);case rel=>exact⟨(kW),(wrap64 (eH+1)),zz6,zz6,H',⟨aMx⟩,⟨bB9⟩,⟨aX9⟩⟩
     rw[if_pos c18]at H;have oH:(((aA3 aC eH).f0)==(fB))=true:=beq_iff_eq.mpr c18;have uS:(((aA3 aC eH).f0) != (fB))=false:=bne_eq_false_iff_eq.mpr c18;clear c18;obtain⟨sT,wF⟩:∃ j_:Int,(mx a1 a2)=j_:=⟨_,rfl⟩;(replace H:(if((aA3 aC eH).f1)=(sT) then(aAe.l0 k2 a1 a2 (wrap64 (kW+1)) aC (aC.length:Int) (wrap64 (eH+1))) else(aAe.l0 k2 a1 a2 kW aC (aC.length:Int) (wrap64 (eH+1))))=some r:=by first|(rw[wF]at H;exact H)|(simp only[wF]at H ⊢;exact H));have L7:(if a1<a2 then a2 else a1)=sT:=wF;by_cases c20:((aA3 aC eH).f1)=(sT);rotate_left
     ·rw[if_neg c20]at H;have r7:(((aA3 aC eH).f1)==(sT))=false:=beq_eq_false_iff_ne.mpr c20;have yX:(((aA3 aC eH).f1) != (sT))=true:=bne_iff_ne.mpr c20;have H':=zK_ H;clear H;have aEk:0<=(eH:Int):=zdT zz4;have aEj:eH<(aC.length:Int):=zdT zz4;obtain⟨dQ,aGt,bK,dP⟩:=aDo b3.out eH aEk aEj;cases aGt;replace bK:=(HB.out.cell (World.block_lt_of_cell? w _ bK)).trans bK;replace dP:=(HB.out.cell (World.block_lt_of_cell? w _ dP)).trans dP;replace aEk:=eq_true aEk;replace aEj:=eq_true aEj;(go_wp2_with (first|((with_reducible refine aAj (N:=9) rfl ?_);(try(refine aC1 (by rfl) ?_;dsimp only));refine aAf ?hg (N:=9) ?hd (cs:=#[.int .i64 0,.int .i64 0]) (t:=46) ?hr ?_;(case hd=>rfl);(case hg=>rfl);(case hr=>exact aD9);intro cG hg w24 hbox hb;have n_:=zA7 (aA4 (g:=aE) (o:=.cells #[.int .i64 aD,.slice (some dQ) aC.length aG] 25 (0,0)) zz1 hb) (aA1 zz0 hb) hbox (aFw:w.heap.size<=cG) (aFw:w.heap.size<=cG) (bB8:aE≠cG) (bB7:cG≠aE);clear aA HB;obtain⟨aA,HB,b0,aMc,aMd,dN,dZ⟩:=n_;clear hb hbox hg;have PW:=dZ.out;have OT:=dN.out;have n5:=aCe b0;have n4:=aCd b0;have nW:=aA0 b0.out 0;have nV:=aA0 b0.out 1)));go_roundg k2;(case measure=>have:=HJ3.out;have:=HK2.out;omega);case rel=>exact⟨(kW),(wrap64 (eH+1)),zz6,zz6,H',⟨aMx⟩,⟨bB9⟩,⟨aX9⟩⟩
     rw[if_pos c20]at H;have r7:(((aA3 aC eH).f1)==(sT))=true:=beq_iff_eq.mpr c20;have yX:(((aA3 aC eH).f1) != (sT))=false:=bne_eq_false_iff_eq.mpr c20;clear c20;have H':=zK_ H;clear H;have aEk:0<=(eH:Int):=zdT zz4;have aEj:eH<(aC.length:Int):=zdT zz4;obtain⟨dQ,aGt,bK,dP⟩:=aDo b3.out eH aEk aEj;cases aGt;replace bK:=(HB.out.cell (World.block_lt_of_cell? w _ bK)).trans bK;replace dP:=(HB.out.cell (World.block_lt_of_cell? w _ dP)).trans dP;replace aEk:=eq_true aEk;replace aEj:=eq_true aEj;(go_wp2_with (first|((with_reducible refine aAj (N:=9) rfl ?_);(try(refine aC1 (by rfl) ?_;dsimp only));refine aAf ?hg (N:=9) ?hd (cs:=#[.int .i64 0,.int .i64 0]) (t:=46) ?hr ?_;(case hd=>rfl);(case hg=>rfl);(case hr=>exact aD9);intro cG hg w21 hbox hb;have n_:=zA7 (aA4 (g:=aE) (o:=.cells #[.int .i64 aD,.slice (some dQ) aC.length aG] 25 (0,0)) zz1 hb) (aA1 zz0 hb) hbox (aFw:w.heap.size<=cG) (aFw:w.heap.size<=cG) (bB8:aE≠cG) (bB7:cG≠aE);clear aA HB;obtain⟨aA,HB,b0,aMc,aMd,dN,dZ⟩:=n_;clear hb hbox hg;have vP:=dZ.out;have vO:=dN.out;have mE:=aCe b0;have mD:=aCd b0;have l8:=aA0 b0.out 0;have l7:=aA0 b0.out 1)));go_roundg k2;(case measure=>have:=HJ3.out;have:=HK2.out;omega);case rel=>exact⟨(wrap64 (kW+1)),(wrap64 (eH+1)),zz6,zz6,H',⟨aMx⟩,⟨bB9⟩,⟨aX9⟩⟩
mutual
def aAr.l0:Nat->List (List Int)->Int->Int->List (S46)->Option ((List (List Int)))
 | 0,_,_,_,_=>none
 | k+1,x3,x4,aY,aW=>if x4<aY then(if 0<=aY then(if(aY:Int).toNat<=35184372088832 then((some (List.replicate (aY:Int).toNat 0:List Int)).bind λjR=>(aAr.l1 k x3 x4 jR (jR.length:Int) 0 aY aW)) else(none)) else(none)) else(some x3)
def aAr.l1:Nat->List (List Int)->Int->List Int->Int->Int->Int->List (S46)->Option ((List (List Int)))
 | 0,_,_,_,_,_,_,_=>none
 | k+1,x3,x4,x5,zN,qD,aY,aW=>if qD<zN then((aAe.f k aY aW x4 qD).bind λb6=>(if 0<=qD then(if qD<(x5.length:Int) then(aAr.l1 k x3 x4 (x5.set (qD:Int).toNat (wrap64 (-b6))) zN (wrap64 (qD+1)) aY aW) else(none)) else(none))) else((aAq.f k aY aW x4).bind λeO=>(if 0<=x4 then(if x4<(x5.length:Int) then(if x3.length<5864062014805 then(aAr.l0 k (x3++[(x5.set (x4:Int).toNat eO)]) (wrap64 (x4+1)) aY aW) else(none)) else(none)) else(none)))
end
def aAr.f (k:Nat) (aD:Int) (aC:List (S46)):Option ((List (List Int))):=(aCq.f aD aC).bind λaQ=>(if aQ=true then(aAr.l0 k ([]:List (List Int)) 0 aD aC) else(some ([]:List (List Int))))
theorem aAr.aBp:∀ k,(∀ y0 y1 y2 y3,LeO (aAr.l0 k y0 y1 y2 y3) (aAr.l0 (k+1) y0 y1 y2 y3))/\(∀ y0 y1 y2 y3 y4 y5 y6,LeO (aAr.l1 k y0 y1 y2 y3 y4 y5 y6) (aAr.l1 (k+1) y0 y1 y2 y3 y4 y5 y6))
 | 0=>⟨λ_ _ _ _ r h=>by simp[aAr.l0]at h,λ_ _ _ _ _ _ _ r h=>by simp[aAr.l1]at h⟩
 | k+1=>by
  obtain⟨ih0,ih1⟩:=aAr.aBp k
  refine⟨?_,?_⟩
  ·intro y0 y1 y2 y3
   unfold aAr.l0
   exact zm9
  ·intro y0 y1 y2 y3 y4 y5 y6
   unfold aAr.l1
   exact zm9
theorem aAr.mono:∀ a0 a1 k,LeO (aAr.f k a0 a1) (aAr.f (k+1) a0 a1):=by
 intro a0 a1 k;obtain⟨ih0,ih1⟩:=aAr.aBp k;unfold aAr.f;exact zm9
theorem aAr.calls (k:Nat) (aD:Int) (aH:Option Addr) (aG:Nat) (aC:List (S46)) (r:List (List Int)) (w:World) (hr0_1:Kd.C k46 w aH aC.length aC) (hc0_1:aC.length<=aG) (h:aAr.f k aD aC=some r) :
  Calls Tryz.prog 57 #[.agg #[.int .i64 aD,.slice aH aC.length aG]] w λe w'=>∃ v0_:Value,e = .returned (v0_)/\Kd.S (Kd.slice 3 (Kd.int .i64)) 26 w' w.heap.size (λ_=>True) v0_ r/\Below w.heap.size w w':=by
 have aI5:=Tryz.underlying25;have b3:=zK_ hr0_1;have bE:=zK_ hc0_1;clear hr0_1 hc0_1;have HB:=zK_ (Below.refl w.heap.size w);have H:((aCq.f aD aC).bind λaQ=>(if aQ=true then(aAr.l0 k ([]:List (List Int)) 0 aD aC) else(some ([]:List (List Int)))))=some r:=h;clear h;obtain⟨aQ,A20,H⟩:=zO_ H;(try dsimp only at H);have A2:=zK_ A20;clear A20;by_cases c3:aQ=true;rotate_left
 ·replace c3:=zdB c3;subst c3;rw[if_neg (show ¬ (false=true) by decide)]at H;obtain rfl:=zdI H;go_enter Tryz.func57,Tryz.ntmps57;(go_wp2_with (first|((with_reducible refine aAj (N:=1) rfl ?_);refine aAf ?hg (N:=1) ?hd (cs:=#[.int .i64 aD,.slice aH aC.length aG]) (t:=25) ?hr ?_;(case hd=>rfl);(case hg=>rfl);(case hr=>exact aD9);intro aE hg w34 hbox hb;have n_:=zA4 (aA1 zz2 hb) hbox (aDl:w.heap.size<=aE) (aDl:w.heap.size<=aE);clear HB;obtain⟨HB,aA,aDd,aD2⟩:=n_;clear hb hbox hg;have m8:=aCe aA;have m7:=aCd aA;have mZ:=aA0 aA.out 0;have mY:=aA0 aA.out 1)|((with_reducible refine aA5 (f:=30) rfl ?_);refine aB8 (some 8) rfl rfl Tryz.func30 (by kernel_rfl) rfl #[.agg #[.int .i64 aD,.slice aH aC.length aG]] rfl zz3 ?_;(with_reducible refine(aCq.calls aD _ _ aC false _ ?side1 ?side2 A2.out).mono ?_);(case side1=>exact zz5);(case side2=>exact bE.out);rintro e w36 ⟨rfl,hb⟩;refine⟨_,rfl,?_⟩;have n_:=zA2 (aA4 (g:=aE) (o:=.cells #[.int .i64 aD,.slice aH aC.length aG] 25 (0,0)) zz1 hb) (aA1 zz0 hb);clear aA HB;obtain⟨aA,HB⟩:=n_;clear hb)));go_ret;exact⟨_,zz7,bBc,zz0⟩
 subst c3;rw[if_pos rfl]at H;have H':=zK_ H;clear H;go_enter Tryz.func57,Tryz.ntmps57;(go_wp2_with (first|((with_reducible refine aAj (N:=1) rfl ?_);refine aAf ?hg (N:=1) ?hd (cs:=#[.int .i64 aD,.slice aH aC.length aG]) (t:=25) ?hr ?_;(case hd=>rfl);(case hg=>rfl);(case hr=>exact aD9);intro aE hg w4 hbox hb;have n_:=zA4 (aA1 zz2 hb) hbox (aDl:w.heap.size<=aE) (aDl:w.heap.size<=aE);clear HB;obtain⟨HB,aA,aDd,aD2⟩:=n_;clear hb hbox hg;have lI:=aCe aA;have lH:=aCd aA;have lZ:=aA0 aA.out 0;have lG:=aA0 aA.out 1)|((with_reducible refine aA5 (f:=30) rfl ?_);refine aB8 (some 8) rfl rfl Tryz.func30 (by kernel_rfl) rfl #[.agg #[.int .i64 aD,.slice aH aC.length aG]] rfl zz3 ?_;(with_reducible refine(aCq.calls aD _ _ aC true _ ?side1 ?side2 A2.out).mono ?_);(case side1=>exact zz5);(case side2=>exact bE.out);rintro e w6 ⟨rfl,hb⟩;refine⟨_,rfl,?_⟩;have n_:=zA2 (aA4 (g:=aE) (o:=.cells #[.int .i64 aD,.slice aH aC.length aG] 25 (0,0)) zz1 hb) (aA1 zz0 hb);clear aA HB;obtain⟨aA,HB⟩:=n_;clear hb)));(go_loopg [3,4] k (λkq v3 v4 w'=>∃ (dH:List (List Int)) (bJ:Int),v4 = .int .i64 bJ/\aA2 (aAr.l0 kq dH bJ aD aC=some r)/\aA2 (kq<=k)/\aA2 (Kd.S (Kd.slice 3 (Kd.int .i64)) 26 w' w.heap.size (λ_=>True) v3 dH)/\aA2 (w'.heap[aE]? = some (.cells #[.int .i64 aD,(.slice aH aC.length aG)] 25 (0,0)))/\aA2 (Below w.heap.size w w')));case atStart=>exact⟨(([]:List (List Int))),(0),zz6,H',⟨Nat.le_refl _⟩,⟨bBc⟩,⟨zz1⟩,⟨zz0⟩⟩
 case round =>
  clear H';(try clear p2);(try clear c3);(try clear c5);(try clear lI);(try clear lH);(try clear lZ);(try clear lG);obtain⟨dH,bJ,rfl,HA,HK1,bY,aA,HB⟩:=hrel
  cases gk with
  | zero=>exact absurd HA.out (by simp[aAr.l0])
  | succ k1 =>
   have H:=HA.out;clear HA;simp only[aAr.l0]at H;by_cases c7:bJ<aD;rotate_left
   ·rw[if_neg c7]at H;have gT:=zdN c7;clear c7;obtain rfl:=zdI H;have uI:=aCe aA;have uH:=aCd aA;have t2:=aA0 aA.out 0;have t1:=aA0 aA.out 1;go_wp2;go_ret;exact⟨_,zz7,by(with_reducible repeat(first|apply Kd.aE0|apply Kd.aDz|apply Kd.aE9));exact bY.out,zz0⟩
   rw[if_pos c7]at H;have gT:=zdY c7;clear c7;by_cases c8:0<=aD;rotate_left
   ·rw[if_neg c8]at H;exact absurd H (by simp)
   rw[if_pos c8]at H;have gV:=eq_true c8;have rU:decide (0<=aD)=true:=zdY c8;clear c8;by_cases c9:(aD:Int).toNat<=35184372088832;rotate_left
   ·rw[if_neg c9]at H;exact absurd H (by simp)
   rw[if_pos c9]at H;have iN:=eq_true c9;have wP:decide ((aD:Int).toNat<=35184372088832)=true:=zdY c9;clear c9;obtain⟨jR,hy_⟩:∃ y_:List Int,y_=(List.replicate (aD:Int).toNat 0):=⟨_,rfl⟩;(replace H:(aAr.l1 k1 dH bJ jR (jR.length:Int) 0 aD aC)=some r:=zzY);have oK:=zK_ hy_;clear hy_;have H':=zK_ H;clear H;have eW:=aCe aA;have eV:=aCd aA;have eT:=aA0 aA.out 0;have eS:=aA0 aA.out 1;(go_wp2_with (first|((with_reducible refine aAj (N:=18) rfl ?_);refine Kd.bAa (Kd.int .i64) _ 3 rfl (N:=18) rfl 26 _ _ rfl aD rfl rfl Tryz.underlying26 (.int .i64 0) 8 info3 rfl (by decide) (by omega) 0 (ok:=λ_=>True) (okp:=λ_=>True) rfl (λ_ hk=>hk) trivial (zdT zz4) (Nat.le_trans (Nat.mul_le_mul_right _ (zdT zz4:aD.toNat<=35184372088832)) (by omega)) (Below.refl _ _) (Nat.le_refl _) ?_;intro bDs w11 aM4 hb hg_ aF7;clear hg_ aF7;(first|rw[<-oK.out]at aM4|(simp only[Int.reduceToNat]at aM4;rw[<-oK.out]at aM4));have n_:=zA4 (Kd.aFf aVn (Kd.aDn aM4) hb) (Kd.aCn aM4 (aAa zz0)) (aA4 (g:=aE) (o:=.cells #[.int .i64 aD,.slice aH aC.length aG] 25 (0,0)) zz1 hb) (aA1 zz0 hb);clear bY aA HB;obtain⟨bY,cB,aA,HB⟩:=n_;clear hb aM4;obtain⟨aGv,aG8,rT⟩:=Kd.aBr cB.out;subst rT)));(go_loopg [21] k1 (λkq v21 w'=>∃ (dY:List Int) (kH:Int),v21 = .int .i64 kH/\aA2 (aAr.l1 kq dH bJ dY (jR.length:Int) kH aD aC=some r)/\aA2 (kq<=k1)/\aA2 (Kd.S (Kd.slice 3 (Kd.int .i64)) 26 w' w.heap.size (λk_=>some k_≠((.slice aGv jR.length aG8):Value).ownBlock) u3 dH)/\aA2 (Kd.R (Kd.int .i64) 3 w' w.heap.size (λ_=>True) (.slice aGv jR.length aG8) dY)/\aA2 (w'.heap[aE]? = some (.cells #[.int .i64 aD,(.slice aH aC.length aG)] 25 (0,0)))/\aA2 (Below w.heap.size w w')));case atStart=>exact⟨(jR),(0),zz6,H',⟨Nat.le_refl _⟩,⟨bBb⟩,⟨by(with_reducible repeat(first|apply Kd.aB6|apply Kd.aB5|apply Kd.aBd));exact cB.out⟩,⟨zz1⟩,⟨zz0⟩⟩
   case round =>
    clear H';(try clear p2);(try clear c3);(try clear c5);(try clear c7);(try clear gT);(try clear c8);(try clear gV);(try clear rU);(try clear c9);(try clear iN);(try clear wP);(try clear eW);(try clear eV);(try clear lI);(try clear lH);(try clear eT);(try clear eS);(try clear lZ);(try clear lG);(try clear p2);obtain⟨dY,kH,rfl,HA,HK2,bY,dU,aA,HB⟩:=hrel;have jN:=(Kd.aAl dU.out).1;rw[jN]at dU;(try simp only[jN]);(try simp only[jN]at aA);(try simp only[jN]at bY)
    cases gk with
    | zero=>exact absurd HA.out (by simp[aAr.l1])
    | succ k2 =>
     have H:=HA.out;clear HA;simp only[aAr.l1]at H;by_cases c14:kH<(jR.length:Int)
     ·rw[if_pos c14]at H;have kJ:=zdY c14;(try(have mT:=kJ;first|rw[jN]at mT|rw[<-jN]at mT));clear c14;obtain⟨b6,bEm,H⟩:=zO_ H;(try dsimp only at H);have A15:=zK_ bEm;clear bEm;by_cases c16:0<=kH;rotate_left
      ·rw[if_neg c16]at H;exact absurd H (by simp)
      rw[if_pos c16]at H;have mS:=zdY c16;clear c16;by_cases c17:kH<(dY.length:Int);rotate_left
      ·rw[if_neg c17]at H;exact absurd H (by simp)
      rw[if_pos c17]at H;have oI:=zdY c17;(try(have sA:=oI;first|rw[jN]at sA|rw[<-jN]at sA));clear c17;obtain⟨mN,hy_⟩:∃ y_:List Int,y_=(dY.set (kH:Int).toNat (wrap64 (-b6))):=⟨_,rfl⟩;(replace H:(aAr.l1 k2 dH bJ mN (jR.length:Int) (wrap64 (kH+1)) aD aC)=some r:=zzY);have pY:=zK_ hy_;clear hy_;have H':=zK_ H;clear H;have i8:=aCe aA;have i7:=aCd aA;have iX:=aA0 aA.out 0;have iW:=aA0 aA.out 1;(go_wp2_with (first|((with_reducible refine aA5 (f:=72) rfl ?_);refine aB8 (some 29) rfl rfl Tryz.func72 (by kernel_rfl) rfl #[.agg #[.int .i64 aD,.slice aH aC.length aG],.int .i64 bJ,.int .i64 kH] rfl zz3 ?_;(with_reducible refine(aAe.calls k2 aD _ _ aC bJ kH b6 _ ?side1 ?side2 A15.out).mono ?_);(case side1=>exact zz5);(case side2=>exact bE.out);rintro e w20 ⟨rfl,hb⟩;refine⟨_,rfl,?_⟩;have n_:=zA4 (Kd.aD8 aVn hb) (Kd.aBn aS9 hb) (aA4 (g:=aE) (o:=.cells #[.int .i64 aD,.slice aH aC.length aG] 25 (0,0)) zz1 hb) (aA1 zz0 hb);clear bY dU aA HB;obtain⟨bY,dU,aA,HB⟩:=n_;clear hb;have p18:0<=(kH:Int):=zdT zz4;have q18:(kH:Int)<((dY.length:Int):Int):=zdT zz4;obtain⟨bL5,bB4,uY,EO,bTw,bWf,bRr⟩:=Kd.aHj dU.out (by omega);(first|cases uY|(injection uY with ea_ en_ ec_;(first|subst ea_|(injection ea_ with ea_;subst ea_));subst ec_;clear en_));have NU:=zK_ EO;have RA:=zK_ bRr;clear EO bTw bRr;obtain⟨JN,MW⟩:=Kd.aEf 0 dU.out (kH:Int) p18 q18;replace p18:=eq_true p18;replace q18:=eq_true q18;obtain⟨bK4,bK3⟩:=Kd.aEf 0 dU.out (kH:Int) (zdT zz4) (zdT zz4);have pZ:=Kd.aHi dU.out (kH:Int) (wrap64 (-b6)))|((with_reducible refine aEb (t:=3) (p:=31) rfl ?_);refine aDy (t:=3) (p:=31) (v:=?vo_w22) (w1:=(w20.setCell ⟨bL5,(kH:Int).toNat,none⟩ (.int .i64 (wrap64 (-b6))))) ?hg ?ho ?hn ?hr ?_;(case ho=>rfl);(case hg=>rfl);(case hn=>rfl);(case hr=>exact aD9);intro w22 hw;have hg:w20.grownBy w22 (some bL5):=(by rw[hw];exact pZ.2);have hp_:Kd.R (Kd.int .i64) 3 w22 w.heap.size (λ_=>True) (.slice (some ⟨bL5,0,none⟩) dY.length aG8) mN:=(by rw[hw,pY.out];exact pZ.1);clear pZ;have n_:=zA4 (Kd.aPt (v:=(.slice (some ⟨bL5,0,none⟩) dY.length aG8)) (v1:=(.slice (some ⟨bL5,0,none⟩) dY.length aG8)) (ok:=(λ_=>True)) bBd hg (.inl rfl)) hp_ (aAt (g:=aE) (o:=.cells #[.int .i64 aD,.slice aH aC.length aG] 25 (0,0)) zz1 hg (Kd.aF1 dU.out aA.out (by decide))) (by rw[hw];exact aAg (HB.out) NU.out:Below w.heap.size w w22);clear bY dU aA HB;obtain⟨bY,dU,aA,HB⟩:=n_;clear hg hw hp_)));(try simp only[<-jN]);go_roundg k2;(case measure=>have:=HK1.out;have:=HK2.out;omega);case rel=>exact⟨(mN),(wrap64 (kH+1)),zz6,H',⟨aM9⟩,⟨by(try simp only[jN]);(with_reducible repeat(first|apply Kd.aE0|apply Kd.aDz|apply Kd.aE9));exact Kd.aE4 bY.out (λ_ hk=>hk.2)⟩,⟨by(try simp only[jN]);(with_reducible repeat(first|apply Kd.aB6|apply Kd.aB5|apply Kd.aBd));exact dU.out⟩,⟨by(try simp only[jN]);(with_reducible repeat(first|refine aA8 ?_ _|refine aA9 ?_|refine aA7 ?_ _));exact aA.out⟩,⟨zz0⟩⟩
     rw[if_neg c14]at H;have kJ:=zdN c14;(try(have mT:=kJ;first|rw[jN]at mT|rw[<-jN]at mT));clear c14;obtain⟨eO,bEk,H⟩:=zO_ H;(try dsimp only at H);have A23:=zK_ bEk;clear bEk;by_cases c24:0<=bJ;rotate_left
     ·rw[if_neg c24]at H;exact absurd H (by simp)
     rw[if_pos c24]at H;have r5:=zdY c24;clear c24;by_cases c25:bJ<(dY.length:Int);rotate_left
     ·rw[if_neg c25]at H;exact absurd H (by simp)
     rw[if_pos c25]at H;have mR:=zdY c25;(try(have rZ:=mR;first|rw[jN]at rZ|rw[<-jN]at rZ));clear c25;obtain⟨cX,hy_⟩:∃ y_:List Int,y_=(dY.set (bJ:Int).toNat eO):=⟨_,rfl⟩;(replace H:(if dH.length<5864062014805 then(aAr.l0 k2 (dH++[cX]) (wrap64 (bJ+1)) aD aC) else(none))=some r:=zzY);have jV:=zK_ hy_;clear hy_;by_cases c27:dH.length<5864062014805;rotate_left
     ·rw[if_neg c27]at H;exact absurd H (by simp)
     rw[if_pos c27]at H;have FU:=zK_ c27;clear c27;obtain⟨oL,hy_⟩:∃ y_:List (List Int),y_=(dH++[cX]):=⟨_,rfl⟩;(replace H:(aAr.l0 k2 oL (wrap64 (bJ+1)) aD aC)=some r:=zzY);have sF:=zK_ hy_;clear hy_;have H':=zK_ H;clear H;have uK:=aCe aA;have uJ:=aCd aA;have t7:=aA0 aA.out 0;have t6:=aA0 aA.out 1;(go_wp2_with (first|((with_reducible refine aA5 (f:=35) rfl ?_);refine aB8 (some 37) rfl rfl Tryz.func35 (by kernel_rfl) rfl #[.agg #[.int .i64 aD,.slice aH aC.length aG],.int .i64 bJ] rfl zz3 ?_;(with_reducible refine(aAq.calls k2 aD _ _ aC bJ eO _ ?side1 ?side2 A23.out).mono ?_);(case side1=>exact zz5);(case side2=>exact bE.out);rintro e w29 ⟨rfl,hb⟩;refine⟨_,rfl,?_⟩;have n_:=zA4 (Kd.aD8 aVn hb) (Kd.aBn aS9 hb) (aA4 (g:=aE) (o:=.cells #[.int .i64 aD,.slice aH aC.length aG] 25 (0,0)) zz1 hb) (aA1 zz0 hb);clear bY dU aA HB;obtain⟨bY,dU,aA,HB⟩:=n_;clear hb;have p26:0<=(bJ:Int):=zdT zz4;have q26:(bJ:Int)<((dY.length:Int):Int):=zdT zz4;obtain⟨bGb,bW9,EV,EL,bTt,bWc,bRo⟩:=Kd.aHj dU.out (by omega);(first|cases EV|(injection EV with ea_ en_ ec_;(first|subst ea_|(injection ea_ with ea_;subst ea_));subst ec_;clear en_));have NR:=zK_ EL;have Q7:=zK_ bRo;clear EL bTt bRo;obtain⟨JK,MT⟩:=Kd.aEf 0 dU.out (bJ:Int) p26 q26;replace p26:=eq_true p26;replace q26:=eq_true q26;obtain⟨bOr,bOq⟩:=Kd.aEf 0 dU.out (bJ:Int) (zdT zz4) (zdT zz4);have tB:=Kd.aHi dU.out (bJ:Int) eO)|((with_reducible refine aEb (t:=3) (p:=38) rfl ?_);refine aDy (t:=3) (p:=38) (v:=?vo_w31) (w1:=(w29.setCell ⟨bGb,(bJ:Int).toNat,none⟩ (.int .i64 eO))) ?hg ?ho ?hn ?hr ?_;(case ho=>rfl);(case hg=>rfl);(case hn=>rfl);(case hr=>exact aD9);intro w31 hw;have hg:w29.grownBy w31 (some bGb):=(by rw[hw];exact tB.2);have hp_:Kd.R (Kd.int .i64) 3 w31 w.heap.size (λ_=>True) (.slice (some ⟨bGb,0,none⟩) dY.length aG8) cX:=(by rw[hw,jV.out];exact tB.1);clear tB;have n_:=zA4 (Kd.aPt (v:=(.slice (some ⟨bGb,0,none⟩) dY.length aG8)) (v1:=(.slice (some ⟨bGb,0,none⟩) dY.length aG8)) (ok:=(λ_=>True)) bBd hg (.inl rfl)) hp_ (aAt (g:=aE) (o:=.cells #[.int .i64 aD,.slice aH aC.length aG] 25 (0,0)) zz1 hg (Kd.aF1 dU.out aA.out (by decide))) (by rw[hw];exact aAg (HB.out) NR.out:Below w.heap.size w w31);clear bY dU aA HB;obtain⟨bY,dU,aA,HB⟩:=n_;clear hg hw hp_)|((with_reducible refine aBe (b:=.append) (xs:=#[.tmp 39,.tmp 41]) rfl ?_);at_builtin;refine Kd.aHg (Kd.slice 3 (Kd.int .i64)) (w0:=w) w.heap.size rfl (.tmp 39) (.tmp 41) 30 26 (.slice none 0 0) 24 rfl Tryz.underlying30 info26 rfl (by decide) (by omega) u3 dH cX [.slice (some ⟨bGb,0,none⟩) dY.length aG8] (λ_=>True) (λk_=>some k_=(.slice (some ⟨bGb,0,none⟩) dY.length aG8:Value).ownBlock) rfl rfl ?aP (λk_ hk_=>((Kd.aBs (ok':=λk_=>((λ_=>True)) k_/\some k_≠(u3:Value).ownBlock) (Kd.aMu (dU.out) (Kd.aPq bY.out) (by decide)) (λk_ hk=>⟨trivial,hk.2⟩))).1 k_ hk_.symm) ?aF ?aO ?aB ?aS ?aL ?_;(case aP=>exact Kd.aNt (Kd.aBs (Kd.aLp rfl (Kd.aBs (ok':=λk_=>((λ_=>True)) k_/\some k_≠(u3:Value).ownBlock) (Kd.aMu (dU.out) (Kd.aPq bY.out) (by decide)) (λk_ hk=>⟨trivial,hk.2⟩))) (λ_ h_=>h_)));(case aB=>exact zz0);(case aF=>exact(λ_ _=>trivial));(case aO=>exact(by(with_reducible repeat(first|apply Kd.aE0|apply Kd.aDz|apply Kd.aE9));exact Kd.aE4 bY.out (λk_ hk=>⟨trivial,λe_=>hk.2 e_⟩)));(case aS=>exact(aAa zz0));(case aL=>have:=FU.out;omega);intro bIu w32 ho hb hg hat;rw[<-sF.out]at ho;have n_:=zA3 (aAt (g:=aE) (o:=.cells #[.int .i64 aD,.slice aH aC.length aG] 25 (0,0)) zz1 hg (Kd.bRh bY.out aA.out (by decide))) hb ho;clear aA HB bY dU;obtain⟨aA,HB,jQ⟩:=n_;clear ho hb hg hat)));(try simp only[<-jN]);go_roundg k2;(case measure=>have:=HK1.out;have:=HK2.out;omega);case rel=>exact⟨(oL),(wrap64 (bJ+1)),zz6,H',⟨aM9⟩,⟨by(try simp only[jN]);(with_reducible repeat(first|apply Kd.aE0|apply Kd.aDz|apply Kd.aE9));exact jQ.out⟩,⟨by(try simp only[jN]);(with_reducible repeat(first|refine aA8 ?_ _|refine aA9 ?_|refine aA7 ?_ _));exact aA.out⟩,⟨zz0⟩⟩
end P
namespace Cf
open P
theorem aN3 {P:Program} {ops:Array Oper} {o:Oper} {a:Act} {w:World} {K:Act->World->Prop} {Q:Exit->Act->World->Prop} {E:Prop}
  (hg:o.guard=none) (s x:Operand) (t:TypeId) (hop:o.op=Op.call { callee:=Callee.builtin Builtin.append,args:=#[s,x],argTypes:=#[t,t]})
  (base:Nat) (e:TypeId) (i:TypeInfo) (size:Nat) (h1:P.underlying t=some (.slice e)) (h2:P.info? e=some i) (h4:i.size=size)
  (g n cap:Nat) (xs:List Value) (hs:a.eval s = .slice (some ⟨g,0,none⟩) n cap) (hown:w.ownsRow base e size (.slice (some ⟨g,0,none⟩) n cap) n xs)
  (ad:Addr) (m c:Nat) (news:List Value) (hx:a.eval x = .slice (some ad) m c) (hn:news.length=m*size) (hc:∀ j u,news[j]? = some u->w.cell? (ad.add j)=some u) (h1c:∀ u∈news,u.oneCell'=true)
  (hroom:n+m<=cap)
  (hK:∀ w',w'.ownsRow base e size (.slice (some ⟨g,0,none⟩) (n+m) cap) (n+m) (xs++news)->w.grownBy w' (some g)->K (a.put o.dst (.slice (some ⟨g,0,none⟩) (n+m) cap)) w') :
  if Region.wanted o (yielded ops a.tmps)=true then Oper.wp P o a w K Q else E:=by
 have hw:Region.wanted o (yielded ops a.tmps)=true:=by simp[Region.wanted,hg]
 rw[if_pos hw]
 obtain⟨w',hrun,r1,r2⟩:=run_append_fits (P:=P) w base t o.type e i size h1 h2 h4 g n cap xs hown ad m c news hn hc h1c hroom
 unfold Oper.wp
 simp[execOp,hop,resolve,invoke,builtin,hs,hx,hrun,Result.andThen]
 exact hK w' r1 r2
theorem aUo {base e size n:Nat} {cap g:Nat} {xs:List Value}:∀ (vs:List Value) (o:Nat) (w:World),w.ownsRow base e size (.slice (some ⟨g,0,none⟩) n cap) n xs->n*size<=o->o+vs.length<=cap*size ->
  (w.setCells g o vs).ownsRow base e size (.slice (some ⟨g,0,none⟩) n cap) n xs/\w.grownBy (w.setCells g o vs) (some g)
 | [],o,w,h,_,_=>⟨h,World.grownBy.refl _ _⟩
 | v::vs,o,w,h,h1,h2=>by
  have h0:(w.setCell ⟨g,o,none⟩ v).ownsRow base e size (.slice (some ⟨g,0,none⟩) n cap) n xs:=by
   obtain⟨hl,hr⟩:=h
   refine⟨hl,?_⟩
   rcases hr with ⟨hv,_⟩|⟨g',cap',cur,hv,hb,hh,hn,hm,hs,ht⟩
   ·cases hv
   ·injection hv with ha _ hc
    injection ha with ha
    injection ha with ha
    subst ha
    subst hc
    refine .inr ⟨g,cap,cur.setIfInBounds o v,rfl,hb,aD1 hh o v rfl,hn,hm,by rw[Array.size_setIfInBounds];exact hs,?_⟩
    rw[<-ht,Array.toList_setIfInBounds,List.take_set_of_le h1]
  have hg:w.grownBy (w.setCell ⟨g,o,none⟩ v) (some g):=⟨rfl,rfl,rfl,by simp[World.setCell],λk _ hk=>Below.heap_setCell w ⟨g,o,none⟩ v k (λe=>hk (by rw[e]))⟩
  obtain⟨h3,h4⟩:=aUo vs (o+1) _ h0 (by omega) (by rw[List.length_cons]at h2;omega)
  refine⟨h3,⟨h4.os.trans hg.os,h4.tape.trans hg.tape,h4.output.trans hg.output,Nat.le_trans hg.size h4.size,λk hk hne=>?_⟩⟩
  rw[show w.setCells g o (v::vs)=(w.setCell ⟨g,o,none⟩ v).setCells g (o+1) vs from rfl,h4.block k (Nat.lt_of_lt_of_le hk hg.size) hne]
  exact hg.block k hk hne
end Cf
namespace P
def aDq.f (l0:List (Int)) (a1 a2:Int):Option (List (Int)):=if 0<=a1 then(if a1<(l0.length:Int) then(if a2=a1+1 then some (l0.eraseIdx a1.toNat) else none) else none) else none
theorem aDq.clear_ {P:Program} (W:World) {g o c:Nat} {t e ty:TypeId} {cur:Array Value} (ht:P.underlying t=some (.slice e)) (hv:∀ w,(zeroValue e).run P w = .ok (.int .i64 0) w) (hb:W.heap[g]? = some (.cells cur e (0,0))) (hl:o+1<=cur.size) :
  (Builtin.clear_ #[t] ty #[.slice (some ⟨g,o,none⟩) 1 c]).run P W = .ok (.tuple #[]) (W.setCells g o [.int .i64 0]):=by
 have hst:=run_storeCells_cells (P:=P) g o [.int .i64 0] 0 W (λj hj=>by
  rw[aAc hb];(simp at hj ⊢);omega) (λj hj=>aA0 hb _) (by intro v hv';simp at hv';rw[hv'];rfl)
 simp only[Nat.add_zero]at hst;(have hz:(Builtin.zeroCells (.int .i64 0:Value).cells 1).toList=[.int .i64 0]:=by simp[Builtin.zeroCells,Value.cells,List.range_succ]);simp[Builtin.clear_,run_underlying ht,hv,hz,hst]
theorem aDq.calls (P0_:Nat->Prop) (aJu:Value) (l0:List (Int)) (a1 a2:Int) (r:List (Int)) (w0 w:World) (hB:Below w0.heap.size w0 w) (ho0:Kd.R (Kd.int .i64) 3 w w0.heap.size P0_ aJu l0) (h:aDq.f l0 a1 a2=some r) :
  Calls Tryz.prog 58 #[aJu,.int .i64 a1,.int .i64 a2] w λe w'=>∃ v0_:Value,e = .returned (v0_)/\Kd.R (Kd.int .i64) 3 w' w0.heap.size (λk_=>(P0_ k_∨w.heap.size<=k_)) v0_ r/\Below w0.heap.size w0 w'/\Kept w w' (λk_=>P0_ k_):=by
 unfold aDq.f at h;split at h
 ·split at h
  ·split at h
   ·rename_i h0 h1 h2;subst h2;obtain rfl:=zdI h;obtain⟨i,rfl⟩:=Int.eq_ofNat_of_zero_le h0;(have hi:i<l0.length:=by omega);clear h h0 h1;obtain⟨hk0,inner,ho,hr⟩:=ho0;have hil:inner.length=l0.length*1:=ho.1;rcases ho.2 with ⟨hv,hn⟩|⟨g,cap,cur,rfl,hbg,hh,hnc,hcm,hcs,htk⟩
    ·omega
    ·obtain⟨i0,hi0,hz0,hz1,hz2⟩:=info_parts info3;(have hcells:∀ j u,inner[j]? = some u->w.cell? ⟨g,j,none⟩=some u:=λj u hu=>by have:=ho.cells (g:=g) rfl j u hu;rwa[add_plain]at this);have hb0:w0.heap.size<=w.heap.size:=hB.size;change cur.size=cap*1 at hcs;change List.take (l0.length*1) cur.toList=inner at htk;have bQq:P0_ g:=hk0 g rfl;have hoi:w.drew.ownsRow w0.heap.size 3 1 (.slice (some ⟨g,0,none⟩) i cap) i (inner.take (i*1)):=⟨by rw[List.length_take];omega,.inr ⟨g,cap,cur,rfl,hbg,hh,by omega,hcm,hcs,by rw[<-htk,List.take_take,Nat.min_eq_left (by omega)]⟩⟩;obtain⟨d,hd⟩:∃ d,l0.length=i+1+d:=⟨l0.length-(i+1),by omega⟩;rw[hd]at hil hnc htk ⊢;obtain⟨news,hnews⟩:∃ news,news=inner.drop ((i+1)*1):=⟨_,rfl⟩;have hnl:news.length=d*1:=by rw[hnews,List.length_drop,hil];omega
     have hn1:∀ u∈news,u.oneCell'=true:=λu hu=>by
      rw[hnews]at hu;exact(Kd.bBt hr (by decide) (λp c hp=>Kd.aH5 (Kd.int .i64) (Kd.aF4 (Kd.int .i64) hp))) u (List.mem_of_mem_drop hu)
     obtain⟨A,hA,hsrc⟩:∃ A:Addr,(if cap=i+1 then some (⟨g,0,none⟩:Addr) else some ⟨g,i+1,none⟩)=some A/\Hid (∀ t u,news[t]? = some u->w.drew.cell? (A.add t)=some u):=by
      by_cases hq:cap=i+1
      ·refine⟨⟨g,0,none⟩,by simp[hq],λt u hu=>?_⟩;(have h0:news.length=0:=by omega);rw[List.length_eq_zero_iff.1 h0]at hu;simp at hu
      refine⟨⟨g,i+1,none⟩,by simp[hq],λt u hu=>?_⟩;rw[hnews,List.getElem?_drop]at hu;rw[Addr.add_lit];exact hcells _ _ (by simpa using hu)
     have HD:=zK_ hd;clear hi;have HO:=zK_ hoi;have HNL:=zK_ hnl;have HN1:=zK_ hn1;have HR:=zK_ hr;have HNW:=zK_ hnews;have HIL:=zK_ hil;have HBW:=zK_ hB;have HC:=zK_ hcs;have HG:=zK_ (⟨hbg,bQq,hcm⟩:w0.heap.size<=g/\P0_ g/\cap<=maxLen);(have hic:i<=cap:=by omega);(have hjc:i+1<=cap:=by omega);(have hcz:cap<=9223372036854775807:=by have:=hcm;unfold maxLen at this;omega);clear hnl hn1 hr hnews hil hB hcs hbg bQq hcm hh htk ho hcells hk0 hoi hd
     have bUa:∀ {W1:World},W1.ownsRow w0.heap.size 3 1 (.slice (some ⟨g,0,none⟩) (i+d) cap) (i+d) (inner.take (i*1)++news)->∀ ty,(Builtin.clear_ #[26] ty #[.slice (some ⟨g,i+d,none⟩) (i+1+d-(i+d)) (cap-(i+d))]).run Tryz.prog W1 = .ok (.tuple #[]) (W1.setCells g (i+d) [.int .i64 0]):=fun {W1} hO ty=>by
      rcases hO.2 with ⟨hv,_⟩|⟨g',cap',cur',hv,_,hh',_,_,hs',_⟩
      ·cases hv
      ·injection hv with ha _ hc';injection ha with ha;injection ha with ha;subst ha;subst hc';rw[show i+1+d-(i+d)=1 by omega];exact aDq.clear_ W1 Tryz.underlying26 Tryz.zeroValue3 hh' (by rw[hs'];omega)
     (have bW3:(0:Int)<=(i:Int)+1:=by omega);(have bW2:(i:Int)+1<=(i:Int)+1+(d:Int):=by omega);go_enter Tryz.func58,Tryz.ntmps58;(go_wp2_with fail);(go_region_law (refine Cf.aN3 rfl (.tmp 22) (.tmp 25) 26 rfl w0.heap.size 3 i0 1 Tryz.underlying26 hi0 hz1 g i cap (inner.take (i*1)) (by simp[Act.eval,Act.put]) HO.out A d (cap-(i+1)) news (by simp[Act.eval,Act.put]) HNL.out hsrc.out HN1.out (by omega) ?_;intro W1 hO1 hG1;have HO1:=zK_ hO1;have HG1:=zK_ hG1;have hcl:=bUa hO1;obtain⟨W2,hW2⟩:∃ W2,W2=W1.setCells g (i+d) [.int .i64 0]:=⟨_,rfl⟩;rw[<-hW2]at hcl;have HW2:=zK_ hW2;clear hO1 hG1 hW2));go_wp2;refine bodyPost_ret (v:=.slice (some ⟨g,0,none⟩) (i+d) cap) (by simp[results,Tryz.results58,go_sem]) rfl ?_;have hO2:=Cf.aUo [.int .i64 0] (i+d) W1 HO1.out (by omega) (by have:=HC.out;simp;omega);rw[<-HW2.out]at hO2;have hgr:w.grownBy W2 (some g):=⟨hO2.2.os.trans HG1.out.os,hO2.2.tape.trans HG1.out.tape,hO2.2.output.trans HG1.out.output,Nat.le_trans HG1.out.size hO2.2.size,λk hk hne=>(hO2.2.block k (Nat.lt_of_lt_of_le hk HG1.out.size) hne).trans (HG1.out.block k hk hne)⟩;(have hel:l0.eraseIdx ((i:Int)).toNat=l0.take i++l0.drop (i+1):=by rw[Int.toNat_natCast,List.eraseIdx_eq_take_drop_succ]);refine⟨_,rfl,⟨λk hk=>?_,?_⟩,⟨hgr.os.trans HBW.out.os,hgr.tape.trans HBW.out.tape,hgr.output.trans HBW.out.output,Nat.le_trans HBW.out.size hgr.size,λk hk=>(hgr.block k (Nat.lt_of_lt_of_le hk HBW.out.size) (by have:=HG.out.1;simp;omega)).trans (HBW.out.block k hk)⟩,⟨hgr.size,λk hk hn=>hgr.block k hk (λe=>hn (by injection e with e;rw[e];exact HG.out.2.1))⟩⟩
     ·(simp[Value.ownBlock]at hk);subst hk;exact .inl HG.out.2.1
     ·(have hlen:(l0.eraseIdx ((i:Int)).toNat).length=i+d:=by rw[hel,List.length_append,List.length_take,List.length_drop,HD.out];omega);refine⟨inner.take (i*1)++news,by rw[hlen];exact hO2.1,?_⟩;rw[hel,HNW.out];have ht:=Kd.aYb (m:=i) HR.out (by rw[HD.out];omega);have hd2:=Kd.aYd (m:=i+1) HR.out;(refine(Kd.aK2 ht hd2).aOh λp c hp=>?_);refine Kd.aEa (Kd.int .i64) (λk hk=>?_) (Kd.bAg hp (w1:=W2) λk hk hlt=>hgr.block k hlt (λe=>hk.2 (by rw[e];rfl)));exact⟨.inl hk.1,λe=>hk.2 (by rw[e];rfl)⟩
   ·cases h
  ·cases h
 ·cases h
def aCh.f (k:Nat) (aD:Int) (aC:List S46) (a1:Int):Option (List (List Int)):=(aCj.f aD aC a1).bind λt=>if t=true then(aAr.f k aD aC).bind λL=>Cf.bB3 a1 L else some []
theorem aCh.mono:∀ a0 a1 a2 k,LeO (aCh.f k a0 a1 a2) (aCh.f (k+1) a0 a1 a2):=by
 intro a0 a1 a2 k;unfold aCh.f;exact LeO.bind (LeO.refl _) λt=>LeO.ite (LeO.bind (aAr.mono _ _ k) λ_=>LeO.refl _) (LeO.refl _)
theorem aCh.calls (k:Nat) (aD:Int) (aH:Option Addr) (aG:Nat) (aC:List S46) (a1:Int) (r:List (List Int)) (w:World) (hr0_1:Kd.C k46 w aH aC.length aC) (hc0_1:aC.length<=aG) (h:aCh.f k aD aC a1=some r) :
  Calls Tryz.prog 32 #[.agg #[.int .i64 aD,.slice aH aC.length aG],.int .i64 a1] w λe w'=>∃ v0_:Value,e = .returned (v0_)/\Kd.S (Kd.slice 3 (Kd.int .i64)) 26 w' w.heap.size (λ_=>True) v0_ r/\Below w.heap.size w w':=by
 have bTb:=Tryz.underlying25;have HR:=zK_ hr0_1;have HC:=zK_ hc0_1;clear hr0_1 hc0_1;have H:((aCj.f aD aC a1).bind λt=>if t=true then(aAr.f k aD aC).bind λL=>Cf.bB3 a1 L else some [])=some r:=h;clear h;obtain⟨t,hv,H⟩:=zO_ H;have HV:=zK_ hv;clear hv;have HB:=zK_ (aB7 (Below.refl w.heap.size w) (.cells #[.int .i64 aD,.slice aH aC.length aG] 25));have BK:=zK_ (heap_alloc_new w (.cells #[.int .i64 aD,.slice aH aC.length aG] 25))
 cases t with
 | false =>
  obtain rfl:=zdI H;clear H;go_enter Tryz.func32,Tryz.ntmps32;(go_wp2_with fail);refine(aCj.calls _ _ _ aC _ false _ (Kd.aC4 HR.out HB.out) HC.out HV.out).mono ?_;rintro e w1 ⟨rfl,hb⟩;have HB1:=zK_ (aA1 HB.out hb);clear hb;go_wp2;go_ret;exact⟨_,rfl,Kd.aLo _ _ _ _ _,HB1.out⟩
 | true =>
  rw[if_pos rfl]at H;obtain⟨L,hL,H⟩:=zO_ H;have HL:=zK_ hL;clear hL;unfold Cf.bB3 at H;split at H
  ·rename_i hq;obtain rfl:=zdI H;clear H;obtain⟨hq0,hq1,hq2,hq3⟩:=hq;obtain⟨q,rfl⟩:=Int.eq_ofNat_of_zero_le hq0;rw[Int.toNat_natCast];have HQ:=zK_ (show q<=1000000/\L.length<=1000000/\∀ r∈L,q<r.length from ⟨by omega,hq2,λr hr=>by have:=hq3 r hr;omega⟩);clear hq0 hq1 hq2 hq3;go_enter Tryz.func32,Tryz.ntmps32;(go_wp2_with fail);refine(aCj.calls _ _ _ aC _ true _ (Kd.aC4 HR.out HB.out) HC.out HV.out).mono ?_;rintro e w1 ⟨rfl,hb⟩;have HB1:=zK_ (aA1 HB.out hb);have uZ:=zK_ (aA4 BK.out hb);clear hb;have hz0:w1.cell? ⟨w.heap.size,0,none⟩=some (.int .i64 aD):=(aAc uZ.out 0).trans rfl;have hz1:w1.cell? ⟨w.heap.size,1,none⟩=some (.slice aH aC.length aG):=(aAc uZ.out 1).trans rfl;(go_wp2_with fail);refine(aAr.calls k _ _ _ aC L _ (Kd.aC4 HR.out HB1.out) HC.out HL.out).mono ?_;rintro e w2 ⟨vL,rfl,hS,hb⟩;have HB2:=zK_ (aA1 HB1.out hb);obtain⟨okj,rs,hO,_,hok⟩:=Cf.aYa (Kd.aEp hS);obtain⟨AL,cL,eL,hcL,_⟩:=Kd.aTp hS;have HO:=zK_ hO;have HSZ:=zK_ (show ∀ j k,okj j k->k<w2.heap.size from λj k h=>(hok j k h).2.2.1);have HW1:=zK_ (aAa HB1.out);have bUn:=zK_ (show ∀ j x u,L[j]? = some x->rs[j]? = some u->Kd.R (Kd.int .i64) 3 w2 w.heap.size (okj j) u x from λj x u hx hu=>Kd.aCn (hO.row j x u hx hu) (aAa HB1.out));have HOL:=zK_ (show ∀ k,vL.ownBlock=some k->k<w2.heap.size from Kd.bEe hS);subst eL;have hLl:L.length<=cL:=hcL;clear hS hb hO hok hcL hz0 hz1;go_wp2;(go_loopw [5,15] (λv5 v15 wr=>∃ i:Nat,v15 = .int .i64 (i:Int)/\aA2 (i<=L.length/\w2.heap.size<=wr.heap.size)/\aA2 (Below w.heap.size w wr)/\aA2 (∀ k,((Value.slice AL L.length cL).ownBlock=some k∨∃ j,i<=j/\okj j k)->wr.heap[k]? = w2.heap[k]?)/\aA2 (Kd.S (Kd.slice 3 (Kd.int .i64)) 26 wr w.heap.size (λk=>(∃ j,j<i/\okj j k)∨w2.heap.size<=k) v5 (Cf.aHr q L i))) (λ_ v _=>L.length-(intOf v).toNat));case atStart=>exact⟨0,rfl,⟨Nat.zero_le _,Nat.le_refl _⟩,HB2,⟨λ_ _=>rfl⟩,⟨Kd.aLo _ _ _ _ _⟩⟩
   case round =>
    obtain⟨i,rfl,HI,HBr,HM,HS⟩:=hrel;by_cases hlt:i<L.length;rotate_left
    ·have c0:decide ((i:Int)<(L.length:Int))=false:=zdN (by omega);(have hi:i=L.length:=by have:=HI.out;omega);subst hi;clear hlt;go_wp2;go_ret;exact⟨_,rfl,Kd.aE4 HS.out (λ_ _=>trivial),HBr.out⟩
    have c0:decide ((i:Int)<(L.length:Int))=true:=zdY (by omega);(have hil:i<rs.length:=by rw[HO.out.len];exact hlt);obtain⟨x,hxi⟩:∃ x,L[i]? = some x:=⟨_,zdH hlt⟩;obtain⟨u,hui⟩:∃ u,rs[i]? = some u:=⟨_,zdH hil⟩;have hR2:=bUn.out i _ _ hxi hui;have hown:=HO.out.own;obtain⟨gL,cap,hgL,hgb,hgc⟩:=hown.form (by omega);injection hgL with hA hn hc;subst hA;(have hcell2:w2.cell? ⟨gL,i,none⟩=some u:=by have:=hown.cells (g:=gL) rfl i _ hui;rwa[add_plain]at this);have hsame:wr.heap[gL]? = w2.heap[gL]?:=HM.out gL (.inl rfl);have hcell:wr.cell? ⟨gL,i,none⟩=some u:=(World.cell?_of_block (a:=⟨gL,i,none⟩) hsame).trans hcell2;(have hRr:=Kd.aOo hR2 (w1:=wr) λk hk=>HM.out k (.inr ⟨i,Nat.le_refl _,hk⟩));obtain⟨Ai,ci,ei⟩:=Kd.aBr hRr;rw[ei]at hcell hRr;have HRr:=zK_ hRr;(have p1:(0:Int)<=(i:Int):=by omega);(have p2:(i:Int)<(L.length:Int):=by omega);(have hib:(i:Int)<=1000000:=by have:=HQ.out.2.1;omega);(have hq0:(0:Int)<=(q:Int):=by omega);(have hqb:(q:Int)<=1000000:=by have:=HQ.out.1;omega);have HLT:=zK_ hlt;have HXI:=zK_ hxi;have HGL:=zK_ (HOL.out gL rfl);clear hR2 hown hgb hgc hsame hcell2 hRr hxi hui hlt hil ei hn hc;by_cases hq:i=q
    ·(have c1:((i:Int)==(q:Int))=true:=by simp[hq]);(have c2:((i:Int) != (q:Int))=false:=by simp[hq]);have HQI:=zK_ hq;clear hq;go_wp2;go_roundw
     case rel =>
      refine⟨i+1,by go_num,⟨by have:=HLT.out;omega,HI.out.2⟩,HBr,⟨λk hk=>HM.out k (hk.imp_right λ⟨j,hj,h⟩=>⟨j,by omega,h⟩)⟩,⟨?_⟩⟩;have e:Cf.aHr q L (i+1)=Cf.aHr q L i:=if_pos HQI.out;rw[e];exact Kd.aE4 HS.out λk hk=>hk.imp_left λ⟨j,hj,h⟩=>⟨j,by omega,h⟩
     case measure =>
      have:=HLT.out;(simp[intOf]);omega
    (have c1:((i:Int)==(q:Int))=false:=by simp;omega);(have c2:((i:Int) != (q:Int))=true:=by simp;omega);have HQI:=zK_ hq;clear hq;(go_wp2_with fail);refine(aDq.calls (okj i) _ x (q:Int) _ (x.eraseIdx q) w wr HBr.out HRr.out ?hd).mono ?_
    case hd =>
     have hql:q<x.length:=HQ.out.2.2 x (List.mem_of_getElem? HXI.out);unfold aDq.f;rw[if_pos (by omega),if_pos (by omega),if_pos rfl,Int.toNat_natCast]
    rintro e w3 ⟨vD,rfl,hD,hb3,hk3⟩;obtain⟨Ad,cd,ed⟩:=Kd.aBr hD;subst ed;have HD:=zK_ hD;have HB3:=zK_ hb3;have HK3:=zK_ hk3;clear hD hb3 hk3;have HSr:=zK_ (Kd.aE4 (ok':=λk=>(((∃ j,j<i+1/\okj j k)∨w2.heap.size<=k)/\¬ (okj i k∨wr.heap.size<=k))) (Kd.bA4 (Kd.aEp HS.out) (w1:=w3) λk hk hlt=>HK3.out.2 k hlt λhi=>hk.1.elim (λ⟨j,hj,h⟩=>by have:=HO.out.apart j i k h hi;omega) (λh=>by have:=HSZ.out i k hi;omega)) λk hk=>⟨hk.1.imp_left λ⟨j,hj,h⟩=>⟨j,by omega,h⟩,λh=>h.elim (λhi=>hk.1.elim (λ⟨j,hj,h⟩=>by have:=HO.out.apart j i k h hi;omega) (λh=>by have:=HSZ.out i k hi;omega)) (λh=>by have:=hk.2.2.1;omega)⟩);have HKL:=zK_ (Cf.aNf q L i);(go_wp2_with (first|((with_reducible refine aBe (b:=.append) (xs:=#[.tmp 23,.tmp 29]) rfl ?_);at_builtin;refine Kd.aHg (Kd.slice 3 (Kd.int .i64)) (w0:=w) w.heap.size rfl (.tmp 23) (.tmp 29) 30 26 (.slice none 0 0) 24 rfl Tryz.underlying30 info26 rfl (by decide) (by omega) u5 (Cf.aHr q L i) (x.eraseIdx q) [.slice Ad (x.eraseIdx q).length cd] (λk=>(∃ j,j<i+1/\okj j k)∨w2.heap.size<=k) (λk=>okj i k∨wr.heap.size<=k) rfl rfl ?aP ?aK ?aF ?aO ?aB ?aS ?aL ?_;(case aP=>exact Kd.aNt HD.out);(case aK=>exact λk hk=>⟨hk.elim (λh=>.inl ⟨i,by omega,h⟩) (λh=>.inr (by have:=HI.out.2;omega)),λe=>(HSr.out.choose_spec.1 k e.symm).2 hk⟩);(case aF=>exact λk hk=>.inr (by have:=HI.out.2;have:=HK3.out.1;omega));(case aO=>exact HSr.out);(case aB=>exact HB3.out);(case aS=>exact aAa HB3.out);(case aL=>have:=HKL.out;have:=HQ.out.2.1;have:=HLT.out;omega);intro v1 w4 ho hb hg hat;have HS4:=zK_ ho;have HB4:=zK_ hb;have HG4:=zK_ hg;clear ho hb hg hat)));go_roundw
    case rel =>
     refine⟨i+1,by go_num,⟨by have:=HLT.out;omega,by have:=HI.out.2;have:=HK3.out.1;have:=HG4.out.size;omega⟩,HB4,⟨λk hk=>?_⟩,⟨?_⟩⟩
     ·have hk2:k<w2.heap.size/\¬ (∃ j,j<i+1/\okj j k):=by
       rcases hk with hk|⟨j,hj,h⟩
       ·(have:k=gL:=by simpa[Value.ownBlock]using hk.symm);subst this;exact⟨HGL.out,λ⟨j,_,h⟩=>HO.out.off j k h rfl⟩
       ·exact⟨HSZ.out j k h,λ⟨j',hj',h'⟩=>by have:=HO.out.apart j j' k h h';omega⟩
      have hkr:k<wr.heap.size:=Nat.lt_of_lt_of_le hk2.1 HI.out.2;(have h1:=HG4.out.block k (Nat.lt_of_lt_of_le hkr HK3.out.1) λe=>(HSr.out.choose_spec.1 k e.symm).1.elim hk2.2 λh=>by have:=hk2.1;omega);(have h2:=HK3.out.2 k hkr λh=>hk2.2 ⟨i,by omega,h⟩);exact h1.trans (h2.trans (HM.out k (hk.imp_right λ⟨j,hj,h⟩=>⟨j,by omega,h⟩)))
     ·have e:Cf.aHr q L (i+1)=Cf.aHr q L i++[x.eraseIdx q]:=by
       show (if i=q then _ else _)=_;rw[if_neg HQI.out,zdG,HXI.out];rfl
      rw[e];exact HS4.out
    case measure =>
     have:=HLT.out;(simp[intOf]);omega
  ·cases H
def aCp.f (k:Nat) (aD:Int) (aC:List (S46)):Option (Int):=(aCq.f aD aC).bind λaQ=>(if aQ=true then((aCh.f k aD aC 0).bind λa6=>((aBz.f k a6).bind λb6=>(some b6))) else(some 0))
theorem aCp.mono:∀ a0 a1 k,LeO (aCp.f k a0 a1) (aCp.f (k+1) a0 a1):=by
 intro a0 a1 k;unfold aCp.f;repeat' first|(with_reducible apply aBz.mono)|(with_reducible apply aCh.mono)|(with_reducible exact LeO.refl _)|(with_reducible exact LeO.none _)|(with_reducible refine LeO.ite ?_ ?_)|(with_reducible refine LeO.bind ?_ (λ_=>?_))|apply aBz.mono|apply aCh.mono|exact LeO.none _|refine LeO.ite ?_ ?_|refine LeO.bind ?_ (λ_=>?_)
theorem aCp.calls (k:Nat) (aD:Int) (aH:Option Addr) (aG:Nat) (aC:List (S46)) (r:Int) (w:World) (hr0_1:Kd.C k46 w aH aC.length aC) (hc0_1:aC.length<=aG) (h:aCp.f k aD aC=some r) :
  Calls Tryz.prog 8 #[.agg #[.int .i64 aD,.slice aH aC.length aG]] w λe w'=>e = .returned (.int .i64 r)/\Below w.heap.size w w':=by
 have aI5:=Tryz.underlying25;have b3:=zK_ hr0_1;have bE:=zK_ hc0_1;clear hr0_1 hc0_1;have HB:=zK_ (Below.refl w.heap.size w);have H:((aCq.f aD aC).bind λaQ=>(if aQ=true then((aCh.f k aD aC 0).bind λa6=>((aBz.f k a6).bind λb6=>(some b6))) else(some 0)))=some r:=h;clear h;obtain⟨aQ,A20,H⟩:=zO_ H;(try dsimp only at H);have A2:=zK_ A20;clear A20;by_cases c3:aQ=true;rotate_left
 ·replace c3:=zdB c3;subst c3;rw[if_neg (show ¬ (false=true) by decide)]at H;obtain rfl:=zdI H;go_enter Tryz.func8,Tryz.ntmps8;(go_wp2_with (first|((with_reducible refine aAj (N:=1) rfl ?_);refine aAf ?hg (N:=1) ?hd (cs:=#[.int .i64 aD,.slice aH aC.length aG]) (t:=25) ?hr ?_;(case hd=>rfl);(case hg=>rfl);(case hr=>exact aD9);intro aE hg w13 hbox hb;have n_:=zA4 (aA1 zz2 hb) hbox (aDl:w.heap.size<=aE) (aDl:w.heap.size<=aE);clear HB;obtain⟨HB,aA,aDd,aD2⟩:=n_;clear hb hbox hg;have iG:=aCe aA;have iF:=aCd aA;have iE:=aA0 aA.out 0;have iD:=aA0 aA.out 1)|((with_reducible refine aA5 (f:=30) rfl ?_);refine aB8 (some 4) rfl rfl Tryz.func30 (by kernel_rfl) rfl #[.agg #[.int .i64 aD,.slice aH aC.length aG]] rfl zz3 ?_;(with_reducible refine(aCq.calls aD _ _ aC false _ ?side1 ?side2 A2.out).mono ?_);(case side1=>exact zz5);(case side2=>exact bE.out);rintro e w15 ⟨rfl,hb⟩;refine⟨_,rfl,?_⟩;have n_:=zA2 (aA4 (g:=aE) (o:=.cells #[.int .i64 aD,.slice aH aC.length aG] 25 (0,0)) zz1 hb) (aA1 zz0 hb);clear aA HB;obtain⟨aA,HB⟩:=n_;clear hb)));go_ret;exact⟨zz7,zz0⟩
 subst c3;rw[if_pos rfl]at H;obtain⟨a6,A40,H⟩:=zO_ H;(try dsimp only at H);have A4:=zK_ A40;clear A40;obtain⟨b6,A50,H⟩:=zO_ H;(try dsimp only at H);have A5:=zK_ A50;clear A50;obtain rfl:=zdI H;go_enter Tryz.func8,Tryz.ntmps8;(go_wp2_with (first|((with_reducible refine aAj (N:=1) rfl ?_);refine aAf ?hg (N:=1) ?hd (cs:=#[.int .i64 aD,.slice aH aC.length aG]) (t:=25) ?hr ?_;(case hd=>rfl);(case hg=>rfl);(case hr=>exact aD9);intro aE hg w6 hbox hb;have n_:=zA4 (aA1 zz2 hb) hbox (aDl:w.heap.size<=aE) (aDl:w.heap.size<=aE);clear HB;obtain⟨HB,aA,aDd,aD2⟩:=n_;clear hb hbox hg;have gO:=aCe aA;have gN:=aCd aA;have gM:=aA0 aA.out 0;have gK:=aA0 aA.out 1)|((with_reducible refine aA5 (f:=30) rfl ?_);refine aB8 (some 4) rfl rfl Tryz.func30 (by kernel_rfl) rfl #[.agg #[.int .i64 aD,.slice aH aC.length aG]] rfl zz3 ?_;(with_reducible refine(aCq.calls aD _ _ aC true _ ?side1 ?side2 A2.out).mono ?_);(case side1=>exact zz5);(case side2=>exact bE.out);rintro e w8 ⟨rfl,hb⟩;refine⟨_,rfl,?_⟩;have n_:=zA2 (aA4 (g:=aE) (o:=.cells #[.int .i64 aD,.slice aH aC.length aG] 25 (0,0)) zz1 hb) (aA1 zz0 hb);clear aA HB;obtain⟨aA,HB⟩:=n_;clear hb;have g6:=aCe aA;have g5:=aCd aA;have g4:=aA0 aA.out 0;have g3:=aA0 aA.out 1)|((with_reducible refine aA5 (f:=32) rfl ?_);refine aB8 (some 7) rfl rfl Tryz.func32 (by kernel_rfl) rfl #[.agg #[.int .i64 aD,.slice aH aC.length aG],.int .i64 0] rfl zz3 ?_;(with_reducible refine(aCh.calls k aD _ _ aC 0 a6 _ ?side1 ?side2 A4.out).mono ?_);(case side1=>exact zz5);(case side2=>exact bE.out);rintro e w10 ⟨bDs,rfl,ho0,hb⟩;refine⟨_,rfl,?_⟩;have n_:=zA3 (Kd.aJg ho0 (aAa zz0)) (aA4 (g:=aE) (o:=.cells #[.int .i64 aD,.slice aH aC.length aG] 25 (0,0)) zz1 hb) (aA1 zz0 hb);clear aA HB;obtain⟨cB,aA,HB⟩:=n_;clear ho0 hb;obtain⟨bO4,aS4,pF⟩:=Kd.aGa cB.out;subst pF)|((with_reducible refine aA5 (f:=31) rfl ?_);refine aB8 (some 8) rfl rfl Tryz.func31 (by kernel_rfl) rfl #[.slice bO4 a6.length aS4] rfl zz3 ?_;(with_reducible refine(aBz.calls k _ _ a6 b6 _ ?side1 ?side2 A5.out).mono ?_);(case side1=>repeat(first|exact(Kd.aEm cB.out).2.2|(with_reducible refine Kd.aCy ?_ _)|(with_reducible refine Kd.aCx ?_ _)|(with_reducible refine Kd.aDf ?_)));(case side2=>exact(Kd.aEm cB.out).2.1);rintro e w12 ⟨rfl,hb⟩;refine⟨_,rfl,?_⟩;have n_:=zA3 (Kd.aD8 (by(with_reducible repeat(first|apply Kd.aE0|apply Kd.aDz|apply Kd.aE9));exact cB.out) hb) (aA4 (g:=aE) (o:=.cells #[.int .i64 aD,.slice aH aC.length aG] 25 (0,0)) zz1 hb) (aA1 zz0 hb);clear cB aA HB;obtain⟨cB,aA,HB⟩:=n_;clear hb)));go_ret;exact⟨zz7,zz0⟩
def aD0.f (k:Nat) (aD:Int) (aC:List (S46)):Option (Int):=(aCp.f k aD aC).bind λaQ=>(some aQ)
theorem aD0.mono:∀ a0 a1 k,LeO (aD0.f k a0 a1) (aD0.f (k+1) a0 a1):=by
 intro a0 a1 k;unfold aD0.f;repeat' first|(with_reducible apply aCp.mono)|(with_reducible exact LeO.refl _)|(with_reducible exact LeO.none _)|(with_reducible refine LeO.ite ?_ ?_)|(with_reducible refine LeO.bind ?_ (λ_=>?_))|apply aCp.mono|exact LeO.none _|refine LeO.ite ?_ ?_|refine LeO.bind ?_ (λ_=>?_)
theorem aD0.calls (k:Nat) (aD:Int) (aH:Option Addr) (aG:Nat) (aC:List (S46)) (r:Int) (w:World) (hr0_1:Kd.C k46 w aH aC.length aC) (hc0_1:aC.length<=aG) (h:aD0.f k aD aC=some r) :
  Calls Tryz.prog 23 #[.agg #[.int .i64 aD,.slice aH aC.length aG]] w λe w'=>e = .returned (.int .i64 r)/\Below w.heap.size w w':=by
 have aI5:=Tryz.underlying25;have b3:=zK_ hr0_1;have bE:=zK_ hc0_1;clear hr0_1 hc0_1;have HB:=zK_ (Below.refl w.heap.size w);have H:((aCp.f k aD aC).bind λaQ=>(some aQ))=some r:=h;clear h;obtain⟨aQ,A20,H⟩:=zO_ H;(try dsimp only at H);have A2:=zK_ A20;clear A20;obtain rfl:=zdI H;go_enter Tryz.func23,Tryz.ntmps23;(go_wp2_with (first|((with_reducible refine aAj (N:=1) rfl ?_);refine aAf ?hg (N:=1) ?hd (cs:=#[.int .i64 aD,.slice aH aC.length aG]) (t:=25) ?hr ?_;(case hd=>rfl);(case hg=>rfl);(case hr=>exact aD9);intro aE hg w3 hbox hb;have n_:=zA4 (aA1 zz2 hb) hbox (aDl:w.heap.size<=aE) (aDl:w.heap.size<=aE);clear HB;obtain⟨HB,aA,aDd,aD2⟩:=n_;clear hb hbox hg;have sY:=aCe aA;have sX:=aCd aA;have wK:=aA0 aA.out 0;have sW:=aA0 aA.out 1)|((with_reducible refine aA5 (f:=8) rfl ?_);refine aB8 (some 4) rfl rfl Tryz.func8 (by kernel_rfl) rfl #[.agg #[.int .i64 aD,.slice aH aC.length aG]] rfl zz3 ?_;(with_reducible refine(aCp.calls k aD _ _ aC aQ _ ?side1 ?side2 A2.out).mono ?_);(case side1=>exact zz5);(case side2=>exact bE.out);rintro e w5 ⟨rfl,hb⟩;refine⟨_,rfl,?_⟩;have n_:=zA2 (aA4 (g:=aE) (o:=.cells #[.int .i64 aD,.slice aH aC.length aG] 25 (0,0)) zz1 hb) (aA1 zz0 hb);clear aA HB;obtain⟨aA,HB⟩:=n_;clear hb)));go_ret;exact⟨zz7,zz0⟩
def aBf.l0:Nat->Int->List Int->Int->Int->Int->List (S46)->Option (List Int)
 | 0,_,_,_,_,_,_=>none
 | k+1,x1,x5,nO,lR,aY,aW=>if lR<nO then(if lR=x1 then(aBf.l0 k x1 x5 nO (wrap64 (lR+1)) aY aW) else((aAq.f k aY aW lR).bind λb6=>(if 0<=lR then(if lR<(x5.length:Int) then(aBf.l0 k x1 (x5.set (lR:Int).toNat (wrap64 (b6-1))) nO (wrap64 (lR+1)) aY aW) else(none)) else(none)))) else(some x5)
def aBf.f (k:Nat) (aD:Int) (aC:List (S46)) (a1:Int):Option (List Int):=(aCj.f aD aC a1).bind λaQ=>(if aQ=true then(if 0<=aD then(if(aD:Int).toNat<=35184372088832 then((some (List.replicate (aD:Int).toNat 0:List Int)).bind λjR=>(aBf.l0 k a1 jR (jR.length:Int) 0 aD aC)) else(none)) else(none)) else(some ([]:List Int)))
theorem aBf.aBp:∀ k,(∀ y0 y1 y2 y3 y4 y5,LeO (aBf.l0 k y0 y1 y2 y3 y4 y5) (aBf.l0 (k+1) y0 y1 y2 y3 y4 y5))
 | 0=>λ_ _ _ _ _ _ r h=>by simp[aBf.l0]at h
 | k+1=>by
  have ih0:=aBf.aBp k
  ·intro y0 y1 y2 y3 y4 y5
   unfold aBf.l0
   exact zm8
theorem aBf.mono:∀ a0 a1 a2 k,LeO (aBf.f k a0 a1 a2) (aBf.f (k+1) a0 a1 a2):=by
 intro a0 a1 a2 k;have ih0:=aBf.aBp k;unfold aBf.f;exact zm8
theorem aBf.calls (k:Nat) (aD:Int) (aH:Option Addr) (aG:Nat) (aC:List (S46)) (a1:Int) (r:List Int) (w:World) (hr0_1:Kd.C k46 w aH aC.length aC) (hc0_1:aC.length<=aG) (h:aBf.f k aD aC a1=some r) :
  Calls Tryz.prog 24 #[.agg #[.int .i64 aD,.slice aH aC.length aG],.int .i64 a1] w λe w'=>∃ v0_:Value,e = .returned (v0_)/\Kd.R (Kd.int .i64) 3 w' w.heap.size (λ_=>True) v0_ r/\Below w.heap.size w w':=by
 have aI5:=Tryz.underlying25;have b3:=zK_ hr0_1;have bE:=zK_ hc0_1;clear hr0_1 hc0_1;have HB:=zK_ (Below.refl w.heap.size w);have H:((aCj.f aD aC a1).bind λaQ=>(if aQ=true then(if 0<=aD then(if(aD:Int).toNat<=35184372088832 then((some (List.replicate (aD:Int).toNat 0:List Int)).bind λjR=>(aBf.l0 k a1 jR (jR.length:Int) 0 aD aC)) else(none)) else(none)) else(some ([]:List Int))))=some r:=h;clear h;obtain⟨aQ,A30,H⟩:=zO_ H;(try dsimp only at H);have A3:=zK_ A30;clear A30;by_cases c4:aQ=true;rotate_left
 ·replace c4:=zdB c4;subst c4;rw[if_neg (show ¬ (false=true) by decide)]at H;obtain rfl:=zdI H;go_enter Tryz.func24,Tryz.ntmps24;(go_wp2_with (first|((with_reducible refine aAj (N:=2) rfl ?_);refine aAf ?hg (N:=2) ?hd (cs:=#[.int .i64 aD,.slice aH aC.length aG]) (t:=25) ?hr ?_;(case hd=>rfl);(case hg=>rfl);(case hr=>exact aD9);intro aE hg w24 hbox hb;have n_:=zA4 (aA1 zz2 hb) hbox (aDl:w.heap.size<=aE) (aDl:w.heap.size<=aE);clear HB;obtain⟨HB,aA,aDd,aD2⟩:=n_;clear hb hbox hg;have i6:=aCe aA;have i5:=aCd aA;have iV:=aA0 aA.out 0;have iU:=aA0 aA.out 1)|((with_reducible refine aA5 (f:=22) rfl ?_);refine aB8 (some 9) rfl rfl Tryz.func22 (by kernel_rfl) rfl #[.agg #[.int .i64 aD,.slice aH aC.length aG],.int .i64 a1] rfl zz3 ?_;(with_reducible refine(aCj.calls aD _ _ aC a1 false _ ?side1 ?side2 A3.out).mono ?_);(case side1=>exact zz5);(case side2=>exact bE.out);rintro e w26 ⟨rfl,hb⟩;refine⟨_,rfl,?_⟩;have n_:=zA2 (aA4 (g:=aE) (o:=.cells #[.int .i64 aD,.slice aH aC.length aG] 25 (0,0)) zz1 hb) (aA1 zz0 hb);clear aA HB;obtain⟨aA,HB⟩:=n_;clear hb)));go_ret;exact⟨_,zz7,aX8,zz0⟩
 subst c4;rw[if_pos rfl]at H;by_cases c5:0<=aD;rotate_left
 ·rw[if_neg c5]at H;exact absurd H (by simp)
 rw[if_pos c5]at H;have fD:=eq_true c5;have qF:decide (0<=aD)=true:=zdY c5;clear c5;by_cases c6:(aD:Int).toNat<=35184372088832;rotate_left
 ·rw[if_neg c6]at H;exact absurd H (by simp)
 rw[if_pos c6]at H;have iO:=eq_true c6;have nP:decide ((aD:Int).toNat<=35184372088832)=true:=zdY c6;clear c6;obtain⟨jR,hy_⟩:∃ y_:List Int,y_=(List.replicate (aD:Int).toNat 0):=⟨_,rfl⟩;(replace H:(aBf.l0 k a1 jR (jR.length:Int) 0 aD aC)=some r:=zzY);have oK:=zK_ hy_;clear hy_;have H':=zK_ H;clear H;go_enter Tryz.func24,Tryz.ntmps24;(go_wp2_with (first|((with_reducible refine aAj (N:=2) rfl ?_);refine aAf ?hg (N:=2) ?hd (cs:=#[.int .i64 aD,.slice aH aC.length aG]) (t:=25) ?hr ?_;(case hd=>rfl);(case hg=>rfl);(case hr=>exact aD9);intro aE hg w7 hbox hb;have n_:=zA4 (aA1 zz2 hb) hbox (aDl:w.heap.size<=aE) (aDl:w.heap.size<=aE);clear HB;obtain⟨HB,aA,aDd,aD2⟩:=n_;clear hb hbox hg;have j7:=aCe aA;have j6:=aCd aA;have j3:=aA0 aA.out 0;have j1:=aA0 aA.out 1)|((with_reducible refine aA5 (f:=22) rfl ?_);refine aB8 (some 9) rfl rfl Tryz.func22 (by kernel_rfl) rfl #[.agg #[.int .i64 aD,.slice aH aC.length aG],.int .i64 a1] rfl zz3 ?_;(with_reducible refine(aCj.calls aD _ _ aC a1 true _ ?side1 ?side2 A3.out).mono ?_);(case side1=>exact zz5);(case side2=>exact bE.out);rintro e w9 ⟨rfl,hb⟩;refine⟨_,rfl,?_⟩;have n_:=zA2 (aA4 (g:=aE) (o:=.cells #[.int .i64 aD,.slice aH aC.length aG] 25 (0,0)) zz1 hb) (aA1 zz0 hb);clear aA HB;obtain⟨aA,HB⟩:=n_;clear hb;have eW:=aCe aA;have eV:=aCd aA;have eT:=aA0 aA.out 0;have eS:=aA0 aA.out 1)|((with_reducible refine aAj (N:=13) rfl ?_);refine Kd.bAa (Kd.int .i64) _ 3 rfl (N:=13) rfl 26 _ _ rfl aD rfl rfl Tryz.underlying26 (.int .i64 0) 8 info3 rfl (by decide) (by omega) 0 (ok:=λ_=>True) (okp:=λ_=>True) rfl (λ_ hk=>hk) trivial (zdT zz4) (Nat.le_trans (Nat.mul_le_mul_right _ (zdT zz4:aD.toNat<=35184372088832)) (by omega)) (Below.refl _ _) (Nat.le_refl _) ?_;intro bDs w11 aM4 hb hg_ aF7;clear hg_ aF7;(first|rw[<-oK.out]at aM4|(simp only[Int.reduceToNat]at aM4;rw[<-oK.out]at aM4));have n_:=zA3 (Kd.aCn aM4 (aAa zz0)) (aA4 (g:=aE) (o:=.cells #[.int .i64 aD,.slice aH aC.length aG] 25 (0,0)) zz1 hb) (aA1 zz0 hb);clear aA HB;obtain⟨cB,aA,HB⟩:=n_;clear hb aM4;obtain⟨aGv,aG8,rT⟩:=Kd.aBr cB.out;subst rT)));(go_loopg [16] k (λkq v16 w'=>∃ (iP:List Int) (gZ:Int),v16 = .int .i64 gZ/\aA2 (aBf.l0 kq a1 iP (jR.length:Int) gZ aD aC=some r)/\aA2 (kq<=k)/\aA2 (Kd.R (Kd.int .i64) 3 w' w.heap.size (λ_=>True) (.slice aGv jR.length aG8) iP)/\aA2 (w'.heap[aE]? = some (.cells #[.int .i64 aD,(.slice aH aC.length aG)] 25 (0,0)))/\aA2 (Below w.heap.size w w')));case atStart=>exact⟨(jR),(0),zz6,H',⟨Nat.le_refl _⟩,⟨by(with_reducible repeat(first|apply Kd.aB6|apply Kd.aB5|apply Kd.aBd));exact cB.out⟩,⟨zz1⟩,⟨zz0⟩⟩
 case round =>
  clear H';(try clear c2);(try clear p2);(try clear c4);(try clear c5);(try clear fD);(try clear qF);(try clear c6);(try clear iO);(try clear nP);(try clear eW);(try clear eV);(try clear j7);(try clear j6);(try clear eT);(try clear eS);(try clear j3);(try clear j1);obtain⟨iP,gZ,rfl,HA,HK1,dU,aA,HB⟩:=hrel;have fU:=(Kd.aAl dU.out).1;rw[fU]at dU;(try simp only[fU]);(try simp only[fU]at aA)
  cases gk with
  | zero=>exact absurd HA.out (by simp[aBf.l0])
  | succ k1 =>
   have H:=HA.out;clear HA;simp only[aBf.l0]at H;by_cases c14:gZ<(jR.length:Int);rotate_left
   ·rw[if_neg c14]at H;have kJ:=zdN c14;(try(have mU:=kJ;first|rw[fU]at mU|rw[<-fU]at mU));clear c14;obtain rfl:=zdI H;go_wp2;go_ret;exact⟨_,zz7,by(with_reducible repeat(first|apply Kd.aB6|apply Kd.aB5|apply Kd.aBd));exact dU.out,zz0⟩
   rw[if_pos c14]at H;have kJ:=zdY c14;(try(have mU:=kJ;first|rw[fU]at mU|rw[<-fU]at mU));clear c14;by_cases c15:gZ=a1
   ·rw[if_pos c15]at H;have mK:(gZ==a1)=true:=beq_iff_eq.mpr c15;have wT:(gZ != a1)=false:=bne_eq_false_iff_eq.mpr c15;clear c15;have H':=zK_ H;clear H;go_wp2;(try simp only[<-fU]);go_roundg k1;(case measure=>have:=HK1.out;omega);case rel=>exact⟨(iP),(wrap64 (gZ+1)),zz6,H',⟨aHl⟩,⟨by(try simp only[fU]);(with_reducible repeat(first|apply Kd.aB6|apply Kd.aB5|apply Kd.aBd));exact dU.out⟩,⟨by(try simp only[fU]);(with_reducible repeat(first|refine aA8 ?_ _|refine aA9 ?_|refine aA7 ?_ _));exact aA.out⟩,⟨zz0⟩⟩
   rw[if_neg c15]at H;have mK:(gZ==a1)=false:=beq_eq_false_iff_ne.mpr c15;have wT:(gZ != a1)=true:=bne_iff_ne.mpr c15;obtain⟨b6,bMy,H⟩:=zO_ H;(try dsimp only at H);have A16:=zK_ bMy;clear bMy;by_cases c17:0<=gZ;rotate_left
   ·rw[if_neg c17]at H;exact absurd H (by simp)
   rw[if_pos c17]at H;have oI:=zdY c17;clear c17;by_cases c18:gZ<(iP.length:Int);rotate_left
   ·rw[if_neg c18]at H;exact absurd H (by simp)
   rw[if_pos c18]at H;have oH:=zdY c18;(try(have r9:=oH;first|rw[fU]at r9|rw[<-fU]at r9));clear c18;obtain⟨mN,hy_⟩:∃ y_:List Int,y_=(iP.set (gZ:Int).toNat (wrap64 (b6-1))):=⟨_,rfl⟩;(replace H:(aBf.l0 k1 a1 mN (jR.length:Int) (wrap64 (gZ+1)) aD aC)=some r:=zzY);have pY:=zK_ hy_;clear hy_;have H':=zK_ H;clear H;have pC:=aCe aA;have pA:=aCd aA;have o1:=aA0 aA.out 0;have o0:=aA0 aA.out 1;(go_wp2_with (first|((with_reducible refine aA5 (f:=35) rfl ?_);refine aB8 (some 26) rfl rfl Tryz.func35 (by kernel_rfl) rfl #[.agg #[.int .i64 aD,.slice aH aC.length aG],.int .i64 gZ] rfl zz3 ?_;(with_reducible refine(aAq.calls k1 aD _ _ aC gZ b6 _ ?side1 ?side2 A16.out).mono ?_);(case side1=>exact zz5);(case side2=>exact bE.out);rintro e w21 ⟨rfl,hb⟩;refine⟨_,rfl,?_⟩;have n_:=zA3 (Kd.aBn aS9 hb) (aA4 (g:=aE) (o:=.cells #[.int .i64 aD,.slice aH aC.length aG] 25 (0,0)) zz1 hb) (aA1 zz0 hb);clear dU aA HB;obtain⟨dU,aA,HB⟩:=n_;clear hb;have p19:0<=(gZ:Int):=zdT zz4;have q19:(gZ:Int)<((iP.length:Int):Int):=zdT zz4;obtain⟨bOy,aPl,pE,EN,bTv,bWe,bRq⟩:=Kd.aHj dU.out (by omega);(first|cases pE|(injection pE with ea_ en_ ec_;(first|subst ea_|(injection ea_ with ea_;subst ea_));subst ec_;clear en_));have NT:=zK_ EN;have Q9:=zK_ bRq;clear EN bTv bRq;obtain⟨JM,MV⟩:=Kd.aEf 0 dU.out (gZ:Int) p19 q19;replace p19:=eq_true p19;replace q19:=eq_true q19;obtain⟨bT8,bT2⟩:=Kd.aEf 0 dU.out (gZ:Int) (zdT zz4) (zdT zz4);have AH:=Kd.aHi dU.out (gZ:Int) (wrap64 (b6-1)))|((with_reducible refine aEb (t:=3) (p:=28) rfl ?_);refine aDy (t:=3) (p:=28) (v:=?vo_w23) (w1:=(w21.setCell ⟨bOy,(gZ:Int).toNat,none⟩ (.int .i64 (wrap64 (b6-1))))) ?hg ?ho ?hn ?hr ?_;(case ho=>rfl);(case hg=>rfl);(case hn=>rfl);(case hr=>exact aD9);intro w23 hw;have hg:w21.grownBy w23 (some bOy):=(by rw[hw];exact AH.2);have hp_:Kd.R (Kd.int .i64) 3 w23 w.heap.size (λ_=>True) (.slice (some ⟨bOy,0,none⟩) iP.length aG8) mN:=(by rw[hw,pY.out];exact AH.1);clear AH;have n_:=zA3 hp_ (aAt (g:=aE) (o:=.cells #[.int .i64 aD,.slice aH aC.length aG] 25 (0,0)) zz1 hg (Kd.aF1 dU.out aA.out (by decide))) (by rw[hw];exact aAg (HB.out) NT.out:Below w.heap.size w w23);clear dU aA HB;obtain⟨dU,aA,HB⟩:=n_;clear hg hw hp_)));(try simp only[<-fU]);go_roundg k1;(case measure=>have:=HK1.out;omega);case rel=>exact⟨(mN),(wrap64 (gZ+1)),zz6,H',⟨aHl⟩,⟨by(try simp only[fU]);(with_reducible repeat(first|apply Kd.aB6|apply Kd.aB5|apply Kd.aBd));exact dU.out⟩,⟨by(try simp only[fU]);(with_reducible repeat(first|refine aA8 ?_ _|refine aA9 ?_|refine aA7 ?_ _));exact aA.out⟩,⟨zz0⟩⟩
def aCo.f (l0:List Int):Option (List Int):=if([]:List Int).length+l0.length<17592186044416 then(some (([]:List Int)++l0)) else(none)
theorem aCo.calls (A0:Option Addr) (c0:Nat) (l0:List Int) (r:List Int) (w:World) (hr0:Kd.C (Kd.int .i64) w A0 l0.length l0) (hc0:l0.length<=c0) (h:aCo.f l0=some r) :
  Calls Tryz.prog 43 #[.slice A0 l0.length c0] w λe w'=>∃ v0_:Value,e = .returned (v0_)/\Kd.R (Kd.int .i64) 3 w' w.heap.size (λ_=>True) v0_ r/\Below w.heap.size w w':=by
 have HR0:=zK_ hr0;have HC0:=zK_ hc0;clear hr0 hc0;have HB:=zK_ (Below.refl w.heap.size w);have H:(if([]:List Int).length+l0.length<17592186044416 then(some (([]:List Int)++l0)) else(none))=some r:=h;clear h;by_cases c2:([]:List Int).length+l0.length<17592186044416;rotate_left
 ·rw[if_neg c2]at H;exact absurd H (by simp)
 rw[if_pos c2]at H;have NN:=zK_ c2;clear c2;obtain⟨sL,hy_⟩:∃ y_:List Int,y_=(([]:List Int)++l0):=⟨_,rfl⟩;(replace H:(some sL)=some r:=zzY);have qJ:=zK_ hy_;clear hy_;obtain rfl:=zdI H;go_enter Tryz.func43,Tryz.ntmps43;(go_wp2_with (first|((with_reducible refine aBe (b:=.append) (xs:=#[.const (.slice none 0 0),.tmp 3]) rfl ?_);at_builtin;refine Kd.aIk (Kd.int .i64) (w0:=w) w.heap.size rfl (.const (.slice none 0 0)) (.tmp 3) 26 3 (.int .i64 0) 8 rfl Tryz.underlying26 info3 rfl (by decide) (by omega) (.slice none 0 0) ([]:List Int) l0 _ _ _ (λ_=>True) (λ_=>False) rfl rfl ?aO ?aR (λ_ _ h=>h) (λ_ h=>h.elim) ?aF ?aB ?aS ?aL ?_;(case aR=>exact bAu);(case aB=>exact zz2);(case aF=>exact(λ_ _=>trivial));(case aO=>exact((Kd.aWt _ _ _ _ (λ_=>True))));(case aS=>exact(aAa zz2));(case aL=>have:=NN.out;omega);intro bN8 w3 ho hb hg hat;rw[<-qJ.out]at ho;have n_:=zA2 hb ho;clear HB;obtain⟨HB,qB⟩:=n_;clear ho hb hg hat)));go_ret;exact⟨_,zz7,aXb,zz2⟩
def aB2.l0:Nat->List Int->Int->Int->Int->Option (Int)
 | 0,_,_,_,_=>none
 | k+1,x0,x1,x7,x8=>if x8<x7 then(if 0<=x8 then(if x8<(x0.length:Int) then(if x1=(rd x0 x8) then(some x8) else(aB2.l0 k x0 x1 x7 (wrap64 (x8+1)))) else(none)) else(none)) else(some (-1))
def aB2.f (k:Nat) (l0:List Int) (a1:Int):Option (Int):=aB2.l0 k l0 a1 (l0.length:Int) 0
theorem aB2.aBp:∀ k,(∀ y0 y1 y2 y3,LeO (aB2.l0 k y0 y1 y2 y3) (aB2.l0 (k+1) y0 y1 y2 y3))
 | 0=>λ_ _ _ _ r h=>by simp[aB2.l0]at h
 | k+1=>by
  have ih0:=aB2.aBp k
  ·intro y0 y1 y2 y3
   unfold aB2.l0
   exact zm0
theorem aB2.mono:∀ a0 a1 k,LeO (aB2.f k a0 a1) (aB2.f (k+1) a0 a1):=by
 intro a0 a1 k;have ih0:=aB2.aBp k;unfold aB2.f;exact zm0
theorem aB2.calls (k:Nat) (A0:Option Addr) (c0:Nat) (l0:List Int) (a1:Int) (r:Int) (w:World) (hr0:Kd.C (Kd.int .i64) w A0 l0.length l0) (hc0:l0.length<=c0) (h:aB2.f k l0 a1=some r) :
  Calls Tryz.prog 97 #[.slice A0 l0.length c0,.int .i64 a1] w λe w'=>e = .returned (.int .i64 r)/\aB0 w w':=by
 have HR0:=zK_ hr0;have HC0:=zK_ hc0;clear hr0 hc0;have H:(aB2.l0 k l0 a1 (l0.length:Int) 0)=some r:=h;clear h;have H':=zK_ H;clear H;go_enter Tryz.func97,Tryz.ntmps97;go_wp2;(go_loopg [8] k (λkq v8 w'=>∃ (cQ:Int),v8 = .int .i64 cQ/\aA2 (aB2.l0 kq l0 a1 (l0.length:Int) cQ=some r)/\aA2 (kq<=k)/\aB0 w w'));case atStart=>exact⟨(0),zz6,H',⟨Nat.le_refl _⟩,by repeat(first|exact aB0.refl _|apply aB0.step)⟩
 case round =>
  clear H';(try clear p2);obtain⟨cQ,rfl,HA,HK1,⟨m1,rfl⟩⟩:=hrel
  cases gk with
  | zero=>exact absurd HA.out (by simp[aB2.l0])
  | succ k1 =>
   have H:=HA.out;clear HA;simp only[aB2.l0]at H;by_cases c3:cQ<(l0.length:Int);rotate_left
   ·rw[if_neg c3]at H;have gX:=zdN c3;clear c3;obtain rfl:=zdI H;go_wp2;go_ret;exact⟨zz6,by repeat(first|exact aB0.refl _|apply aB0.step)⟩
   rw[if_pos c3]at H;have gX:=zdY c3;clear c3;by_cases c4:0<=cQ;rotate_left
   ·rw[if_neg c4]at H;exact absurd H (by simp)
   rw[if_pos c4]at H;have gW:=zdY c4;clear c4;by_cases c5:cQ<(l0.length:Int);rotate_left
   ·rw[if_neg c5]at H;exact absurd H (by simp)
   rw[if_pos c5]at H;have fD:=zdY c5;clear c5;by_cases c6:a1=(rd l0 cQ)
   ·rw[if_pos c6]at H;have iO:(a1==(rd l0 cQ))=true:=beq_iff_eq.mpr c6;have nP:(a1 != (rd l0 cQ))=false:=bne_eq_false_iff_eq.mpr c6;clear c6;obtain rfl:=zdI H;have aDu:0<=(cQ:Int):=zdT zz4;have aDt:cQ<(l0.length:Int):=zdT zz4;obtain⟨d7,aFt,bM⟩:=Kd.aCl HR0.out cQ aDu aDt;cases aFt;replace aDu:=eq_true aDu;replace aDt:=eq_true aDt;go_wp2;go_ret;exact⟨zz6,by repeat(first|exact aB0.refl _|apply aB0.step)⟩
   rw[if_neg c6]at H;have iO:(a1==(rd l0 cQ))=false:=beq_eq_false_iff_ne.mpr c6;have nP:(a1 != (rd l0 cQ))=true:=bne_iff_ne.mpr c6;have H':=zK_ H;clear H;have aDu:0<=(cQ:Int):=zdT zz4;have aDt:cQ<(l0.length:Int):=zdT zz4;obtain⟨d7,aFt,bM⟩:=Kd.aCl HR0.out cQ aDu aDt;cases aFt;replace aDu:=eq_true aDu;replace aDt:=eq_true aDt;go_wp2;go_roundg k1;(case measure=>have:=HK1.out;omega);case rel=>exact⟨(wrap64 (cQ+1)),zz6,H',⟨aHl⟩,by repeat(first|exact aB0.refl _|apply aB0.step)⟩
def aBy.f (k:Nat) (l0:List Int) (a1:Int):Option (Bool):=(aB2.f k l0 a1).bind λbO=>(some (decide (bO≥0)))
theorem aBy.mono:∀ a0 a1 k,LeO (aBy.f k a0 a1) (aBy.f (k+1) a0 a1):=by
 intro a0 a1 k;unfold aBy.f;repeat' first|(with_reducible apply aB2.mono)|(with_reducible exact LeO.refl _)|(with_reducible exact LeO.none _)|(with_reducible refine LeO.ite ?_ ?_)|(with_reducible refine LeO.bind ?_ (λ_=>?_))|apply aB2.mono|exact LeO.none _|refine LeO.ite ?_ ?_|refine LeO.bind ?_ (λ_=>?_)
theorem aBy.calls (k:Nat) (A0:Option Addr) (c0:Nat) (l0:List Int) (a1:Int) (r:Bool) (w:World) (hr0:Kd.C (Kd.int .i64) w A0 l0.length l0) (hc0:l0.length<=c0) (h:aBy.f k l0 a1=some r) :
  Calls Tryz.prog 73 #[.slice A0 l0.length c0,.int .i64 a1] w λe w'=>e = .returned (.bool r)/\aB0 w w':=by
 have HR0:=zK_ hr0;have HC0:=zK_ hc0;clear hr0 hc0;have H:((aB2.f k l0 a1).bind λbO=>(some (decide (bO≥0))))=some r:=h;clear h;obtain⟨bO,A30,H⟩:=zO_ H;(try dsimp only at H);have A3:=zK_ A30;clear A30;obtain rfl:=zdI H;go_enter Tryz.func73,Tryz.ntmps73;(go_wp2_with (first|((with_reducible refine aA5 (f:=97) rfl ?_);refine aB8 (some 7) rfl rfl Tryz.func97 (by kernel_rfl) rfl #[.slice A0 l0.length c0,.int .i64 a1] rfl zz3 ?_;(with_reducible refine(aB2.calls k _ _ l0 a1 bO _ ?side1 ?side2 A3.out).mono ?_);(case side1=>exact bAu);(case side2=>exact HC0.out);rintro e w' ⟨rfl,⟨nd,rfl⟩⟩;refine⟨_,rfl,?_⟩)));go_ret;exact⟨zz6,by repeat(first|exact aB0.refl _|apply aB0.step)⟩
mutual
def aB1.l0:Nat->List Int->List Int->Int->List (S46)->Option (List Int)
 | 0,_,_,_,_=>none
 | k+1,x1,x7,aY,aW=>aB1.l1 k x1 x7 (-1) 0 aY aW
def aB1.l1:Nat->List Int->List Int->Int->Int->Int->List (S46)->Option (List Int)
 | 0,_,_,_,_,_,_=>none
 | k+1,x1,x7,x8,x9,aY,aW=>if x9<aY then(aB1.j2 k x1 x7 x8 x9 (decide (x8<0)) aY aW) else(aB1.j2 k x1 x7 x8 x9 false aY aW)
def aB1.j2:Nat->List Int->List Int->Int->Int->Bool->Int->List (S46)->Option (List Int)
 | 0,_,_,_,_,_,_,_=>none
 | k+1,x1,x7,x8,x9,xH,aY,aW=>if xH=true then(aB1.l2 k x1 x7 x8 x9 0 x7 (x7.length:Int) 0 aY aW) else(if x8<0 then(some x7) else(if x7.length<17592186044416 then(aB1.l0 k x1 (x7++[x8]) aY aW) else(none)))
def aB1.l2:Nat->List Int->List Int->Int->Int->Int->List Int->Int->Int->Int->List (S46)->Option (List Int)
 | 0,_,_,_,_,_,_,_,_,_,_=>none
 | k+1,x1,x7,x8,x9,iR,JF,vH,xG,aY,aW=>if xG<vH then(if 0<=xG then(if xG<(JF.length:Int) then((aAe.f k aY aW x9 (rd JF xG)).bind λcV=>(aB1.l2 k x1 x7 x8 x9 (wrap64 (iR+cV)) JF vH (wrap64 (xG+1)) aY aW)) else(none)) else(none)) else((aBy.f k x7 x9).bind λcM=>(if cM=true then(aB1.l1 k x1 x7 x8 (wrap64 (x9+1)) aY aW) else(if 0<=x9 then(if x9<(x1.length:Int) then(if(rd x1 x9)<iR then(aB1.l1 k x1 x7 x9 (wrap64 (x9+1)) aY aW) else(aB1.l1 k x1 x7 x8 (wrap64 (x9+1)) aY aW)) else(none)) else(none))))
end
def aB1.f (k:Nat) (aD:Int) (aC:List (S46)) (l1:List Int) (a2:Int):Option (List Int):=aB1.l0 k l1 (([a2]:List Int)) aD aC
theorem aB1.aBp:∀ k,(∀ y0 y1 y2 y3,LeO (aB1.l0 k y0 y1 y2 y3) (aB1.l0 (k+1) y0 y1 y2 y3))/\(∀ y0 y1 y2 y3 y4 y5,LeO (aB1.l1 k y0 y1 y2 y3 y4 y5) (aB1.l1 (k+1) y0 y1 y2 y3 y4 y5))/\(∀ y0 y1 y2 y3 y4 y5 y6,LeO (aB1.j2 k y0 y1 y2 y3 y4 y5 y6) (aB1.j2 (k+1) y0 y1 y2 y3 y4 y5 y6))/\(∀ y0 y1 y2 y3 y4 y5 y6 y7 y8 y9,LeO (aB1.l2 k y0 y1 y2 y3 y4 y5 y6 y7 y8 y9) (aB1.l2 (k+1) y0 y1 y2 y3 y4 y5 y6 y7 y8 y9))
 | 0=>⟨λ_ _ _ _ r h=>by simp[aB1.l0]at h,λ_ _ _ _ _ _ r h=>by simp[aB1.l1]at h,λ_ _ _ _ _ _ _ r h=>by simp[aB1.j2]at h,λ_ _ _ _ _ _ _ _ _ _ r h=>by simp[aB1.l2]at h⟩
 | k+1=>by
  obtain⟨ih0,ih1,ih2,ih3⟩:=aB1.aBp k
  refine⟨?_,?_,?_,?_⟩
  ·intro y0 y1 y2 y3
   unfold aB1.l0
   exact zm4
  ·intro y0 y1 y2 y3 y4 y5
   unfold aB1.l1
   exact zm4
  ·intro y0 y1 y2 y3 y4 y5 y6
   unfold aB1.j2
   exact zm4
  ·intro y0 y1 y2 y3 y4 y5 y6 y7 y8 y9
   unfold aB1.l2
   exact zm4
theorem aB1.mono:∀ a0 a1 a2 a3 k,LeO (aB1.f k a0 a1 a2 a3) (aB1.f (k+1) a0 a1 a2 a3):=by
 intro a0 a1 a2 a3 k;obtain⟨ih0,ih1,ih2,ih3⟩:=aB1.aBp k;unfold aB1.f;exact zm4
theorem aB1.calls (k:Nat) (aD:Int) (aH:Option Addr) (aG:Nat) (aC:List (S46)) (A1:Option Addr) (c1:Nat) (l1:List Int) (a2:Int) (r:List Int) (w:World) (hr0_1:Kd.C k46 w aH aC.length aC) (hc0_1:aC.length<=aG) (hr1:Kd.C (Kd.int .i64) w A1 l1.length l1) (hc1:l1.length<=c1) (h:aB1.f k aD aC l1 a2=some r) :
  Calls Tryz.prog 46 #[.agg #[.int .i64 aD,.slice aH aC.length aG],.slice A1 l1.length c1,.int .i64 a2] w λe w'=>∃ v0_:Value,e = .returned (v0_)/\Kd.R (Kd.int .i64) 3 w' w.heap.size (λ_=>True) v0_ r/\Below w.heap.size w w':=by
 have aI5:=Tryz.underlying25;have b3:=zK_ hr0_1;have bE:=zK_ hc0_1;clear hr0_1 hc0_1;have HR1:=zK_ hr1;have HC1:=zK_ hc1;clear hr1 hc1;have HB:=zK_ (Below.refl w.heap.size w);have H:(aB1.l0 k l1 (([a2]:List Int)) aD aC)=some r:=h;clear h;obtain⟨vF,hy_⟩:∃ y_:List Int,y_=(([a2]:List Int)):=⟨_,rfl⟩;(replace H:(aB1.l0 k l1 vF aD aC)=some r:=zzY);have oA:=zK_ hy_;clear hy_;have H':=zK_ H;clear H;go_enter Tryz.func46,Tryz.ntmps46;(go_wp2_with (first|((with_reducible refine aAj (N:=3) rfl ?_);refine aAf ?hg (N:=3) ?hd (cs:=#[.int .i64 aD,.slice aH aC.length aG]) (t:=25) ?hr ?_;(case hd=>rfl);(case hg=>rfl);(case hr=>exact aD9);intro aE hg w4 hbox hb;have n_:=zA4 (aA1 zz2 hb) hbox (aDl:w.heap.size<=aE) (aDl:w.heap.size<=aE);clear HB;obtain⟨HB,aA,aDd,aD2⟩:=n_;clear hb hbox hg)|((with_reducible refine aAj (N:=14) rfl ?_);refine Kd.aL2 (Kd.int .i64) _ 3 ?hg (N:=14) ?hd (xs:=([a2]:List Int)) (inner:=[.int .i64 a2]) (ok:=λ_=>True) (okp:=λ_=>True) ?hr ?hp (λ_ hk=>hk) trivial (Below.refl _ _) (Nat.le_refl _) (by simp) ?_;(case hd=>rfl);(case hg=>rfl);(case hr=>exact aD9);(case hp=>exact(aEs.one (show Kd.M (Kd.int .i64) _ _ _ a2 [.int .i64 a2] from rfl) (aEs.none _ _)));intro aXr w5 ho6 hb hg_ aF7;clear hg_ aF7;(first|rw[<-oA.out]at ho6|(simp only[Int.reduceToNat]at ho6;rw[<-oA.out]at ho6));have n_:=zA3 (Kd.aCn ho6 (aAa zz0)) (aA4 (g:=aE) (o:=.cells #[.int .i64 aD,.slice aH aC.length aG] 25 (0,0)) zz1 hb) (aA1 zz0 hb);clear aA HB;obtain⟨dD,aA,HB⟩:=n_;clear hb ho6)));(go_loopg [7] k (λkq v7 w'=>∃ (cK:List Int),aA2 (aB1.l0 kq l1 cK aD aC=some r)/\aA2 (kq<=k)/\aA2 (Kd.R (Kd.int .i64) 3 w' w.heap.size (λ_=>True) v7 cK)/\aA2 (w'.heap[aE]? = some (.cells #[.int .i64 aD,(.slice aH aC.length aG)] 25 (0,0)))/\aA2 (Below w.heap.size w w')));case atStart=>exact⟨(vF),H',⟨Nat.le_refl _⟩,⟨aOs⟩,⟨zz1⟩,⟨zz0⟩⟩
 case round =>
  clear H';(try clear c1);(try clear p2);(try clear c4);obtain⟨cK,HA,HK1,mV,aA,HB⟩:=hrel
  cases gk with
  | zero=>exact absurd HA.out (by simp[aB1.l0])
  | succ k1 =>
   have H:=HA.out;clear HA;simp only[aB1.l0]at H;have H':=zK_ H;clear H;go_wp2;(go_loopg [8,9] k1 (λkq v8 v9 w'=>∃ (oM:Int) (jX:Int),v8 = .int .i64 oM/\v9 = .int .i64 jX/\aA2 (aB1.l1 kq l1 cK oM jX aD aC=some r)/\aA2 (kq<=k1)/\aA2 (Kd.R (Kd.int .i64) 3 w' w.heap.size (λ_=>True) u7 cK)/\aA2 (w'.heap[aE]? = some (.cells #[.int .i64 aD,(.slice aH aC.length aG)] 25 (0,0)))/\aA2 (Below w.heap.size w w')));case atStart=>exact⟨((-1)),(0),zz6,zz6,H',⟨Nat.le_refl _⟩,⟨bAo⟩,⟨zz1⟩,⟨zz0⟩⟩
   case round =>
    clear H';(try clear c1);(try clear p2);(try clear c4);(try clear p2);obtain⟨oM,jX,rfl,rfl,HA,HK2,mV,aA,HB⟩:=hrel
    cases gk with
    | zero=>exact absurd HA.out (by simp[aB1.l1])
    | succ k2 =>
     have H:=HA.out;clear HA;simp only[aB1.l1]at H;have HC7:=zK_ H;clear H;(go_upto_region 4 with (fail));go_cut [22] (λv22 wc=>∃ (kq:Nat) (tG:Bool),v22 = .bool tG/\aA2 (aB1.j2 kq l1 cK oM jX tG aD aC=some r)/\aA2 (kq<=k2)/\aA2 (Kd.R (Kd.int .i64) 3 wc w.heap.size (λ_=>True) u7 cK)/\aA2 (wc.heap[aE]? = some (.cells #[.int .i64 aD,(.slice aH aC.length aG)] 25 (0,0)))/\aA2 (Below w.heap.size w wc))
     case first =>
      have H:=HC7.out;clear HC7;by_cases c8:jX<aD
      ·rw[if_pos c8]at H;have gV:=zdY c8;clear c8;(first|rw[gV]|(simp only[aFm,aMb];rw[gV])|skip);have H':=zK_ H;clear H;have g6:=aCe aA;have g5:=aCd aA;have g4:=aA0 aA.out 0;have g3:=aA0 aA.out 1;go_wp2;(go_meet);case rel=>exact⟨_,(decide (oM<0)),zz6,H',⟨by have:=HK1.out;have:=HK2.out;first|omega|exact Nat.le_refl _⟩,⟨bAo⟩,⟨zz1⟩,⟨zz0⟩⟩
      rw[if_neg c8]at H;have gV:=zdN c8;clear c8;(first|rw[gV]|(simp only[aFm,aMb];rw[gV])|skip);have H':=zK_ H;clear H;have eW:=aCe aA;have eV:=aCd aA;have eT:=aA0 aA.out 0;have eS:=aA0 aA.out 1;go_wp2;(go_meet);case rel=>exact⟨_,(false),zz6,H',⟨by have:=HK1.out;have:=HK2.out;first|omega|exact Nat.le_refl _⟩,⟨bAo⟩,⟨zz1⟩,⟨zz0⟩⟩
     case rest =>
      clear HC7;(try clear c1);(try clear p2);(try clear c4);(try clear c8);(try clear gV);(try clear eW);(try clear eV);(try clear g6);(try clear g5);(try clear eT);(try clear eS);(try clear g4);(try clear g3);(try clear p2);obtain⟨kq,tG,rfl,HA,HJ6,mV,aA,HB⟩:=hcut
      cases kq with
      | zero=>exact absurd HA.out (by simp[aB1.j2])
      | succ kj6 =>
       have H:=HA.out;clear HA;simp only[aB1.j2]at H;by_cases c11:tG=true;rotate_left
       ·replace c11:=zdB c11;subst c11;rw[if_neg (show ¬ (false=true) by decide)]at H;by_cases c24:oM<0
        ·rw[if_pos c24]at H;have r5:=zdY c24;clear c24;obtain rfl:=zdI H;go_wp2;go_ret;exact⟨_,zz7,bAo,zz0⟩
        rw[if_neg c24]at H;have r5:=zdN c24;clear c24;by_cases c25:cK.length<17592186044416;rotate_left
        ·rw[if_neg c25]at H;exact absurd H (by simp)
        rw[if_pos c25]at H;have sG:=zK_ c25;clear c25;obtain⟨gY,hy_⟩:∃ y_:List Int,y_=(cK++[oM]):=⟨_,rfl⟩;(replace H:(aB1.l0 kj6 l1 gY aD aC)=some r:=zzY);have lE:=zK_ hy_;clear hy_;have H':=zK_ H;clear H;(go_wp2_with (first|((with_reducible refine aBe (b:=.append) (xs:=#[.tmp 54,.tmp 56]) rfl ?_);at_builtin;refine Kd.aD5 (Kd.int .i64) (w0:=w) w.heap.size rfl (.tmp 54) (.tmp 56) 26 3 (.int .i64 0) 8 rfl Tryz.underlying26 info3 rfl (by decide) (by omega) u7 cK oM [.int .i64 oM] (λ_=>True) (λ_=>False) rfl rfl ?aP (λ_ hk=>hk.elim) ?aF ?aO ?aB ?aS ?aL ?_;(case aP=>exact rfl);(case aB=>exact zz0);(case aF=>exact(λ_ _=>trivial));(case aO=>exact(by(with_reducible repeat(first|apply Kd.aB6|apply Kd.aB5|apply Kd.aBd));exact mV.out));(case aS=>exact(aAa zz0));(case aL=>have:=sG.out;omega);intro bB2 w26 ho hb hg hat;rw[<-lE.out]at ho;have n_:=zA3 (aAt (g:=aE) (o:=.cells #[.int .i64 aD,.slice aH aC.length aG] 25 (0,0)) zz1 hg (Kd.aF1 mV.out aA.out (by decide))) hb ho;clear aA HB mV;obtain⟨aA,HB,d8⟩:=n_;clear ho hb hg hat)));go_roundg kj6;(case measure=>have:=HK1.out;have:=HK2.out;have:=HJ6.out;omega);case rel=>exact⟨(gY),H',⟨by have:=HK1.out;have:=HK2.out;have:=HJ6.out;omega⟩,⟨by(with_reducible repeat(first|apply Kd.aB6|apply Kd.aB5|apply Kd.aBd));exact d8.out⟩,⟨zz1⟩,⟨zz0⟩⟩
       subst c11;rw[if_pos rfl]at H;have H':=zK_ H;clear H;obtain⟨bMs,bLl,NK⟩:=Kd.aBr mV.out;subst NK;go_wp2;(go_loopg [10,27] kj6 (λkq v10 v27 w'=>∃ (rA:Int) (mI:Int),v10 = .int .i64 rA/\v27 = .int .i64 mI/\aA2 (aB1.l2 kq l1 cK oM jX rA cK (cK.length:Int) mI aD aC=some r)/\aA2 (kq<=kj6)/\aA2 (Kd.R (Kd.int .i64) 3 w' w.heap.size (λ_=>True) (.slice bMs cK.length bLl) cK)/\aA2 (Kd.R (Kd.int .i64) 3 w' w.heap.size (λ_=>True) (.slice bMs cK.length bLl) cK)/\aA2 (w'.heap[aE]? = some (.cells #[.int .i64 aD,(.slice aH aC.length aG)] 25 (0,0)))/\aA2 (Below w.heap.size w w')));case atStart=>exact⟨(0),(0),zz6,zz6,H',⟨Nat.le_refl _⟩,⟨bAo⟩,⟨bAo⟩,⟨zz1⟩,⟨zz0⟩⟩
       case round =>
        clear H';(try clear c1);(try clear p2);(try clear c4);(try clear c8);(try clear gV);(try clear c11);(try clear eW);(try clear eV);(try clear g6);(try clear g5);(try clear eT);(try clear eS);(try clear g4);(try clear g3);(try clear p2);obtain⟨rA,mI,rfl,rfl,HA,HK4,mV,sI,aA,HB⟩:=hrel
        cases gk with
        | zero=>exact absurd HA.out (by simp[aB1.l2])
        | succ k4 =>
         have H:=HA.out;clear HA;simp only[aB1.l2]at H;by_cases c13:mI<(cK.length:Int)
         ·rw[if_pos c13]at H;have jU:=zdY c13;clear c13;by_cases c14:0<=mI;rotate_left
          ·rw[if_neg c14]at H;exact absurd H (by simp)
          rw[if_pos c14]at H;have kJ:=zdY c14;clear c14;by_cases c15:mI<(cK.length:Int);rotate_left
          ·rw[if_neg c15]at H;exact absurd H (by simp)
          rw[if_pos c15]at H;have mK:=zdY c15;clear c15;obtain⟨cV,bMy,H⟩:=zO_ H;(try dsimp only at H);have A16:=zK_ bMy;clear bMy;have H':=zK_ H;clear H;have aLd:0<=(mI:Int):=zdT zz4;have aLc:mI<(cK.length:Int):=zdT zz4;obtain⟨jE,e108,d9⟩:=Kd.aCl (Kd.aAl sI.out).2.2 mI aLd aLc;cases e108;replace aLd:=eq_true aLd;replace aLc:=eq_true aLc;have jA:=aCe aA;have i9:=aCd aA;have iZ:=aA0 aA.out 0;have iY:=aA0 aA.out 1;(go_wp2_with (first|((with_reducible refine aA5 (f:=72) rfl ?_);refine aB8 (some 35) rfl rfl Tryz.func72 (by kernel_rfl) rfl #[.agg #[.int .i64 aD,.slice aH aC.length aG],.int .i64 jX,.int .i64 (rd cK mI)] rfl zz3 ?_;(with_reducible refine(aAe.calls k4 aD _ _ aC jX (rd cK mI) cV _ ?side1 ?side2 A16.out).mono ?_);(case side1=>exact zz5);(case side2=>exact bE.out);rintro e w18 ⟨rfl,hb⟩;refine⟨_,rfl,?_⟩;have n_:=zA4 (Kd.aBn (by(with_reducible repeat(first|apply Kd.aB6|apply Kd.aB5|apply Kd.aBd));exact mV.out) hb) (Kd.aBn (by(with_reducible repeat(first|apply Kd.aB6|apply Kd.aB5|apply Kd.aBd));exact sI.out) hb) (aA4 (g:=aE) (o:=.cells #[.int .i64 aD,.slice aH aC.length aG] 25 (0,0)) zz1 hb) (aA1 zz0 hb);clear mV sI aA HB;obtain⟨mV,sI,aA,HB⟩:=n_;clear hb)));go_roundg k4;(case measure=>have:=HK1.out;have:=HK2.out;have:=HJ6.out;have:=HK4.out;omega);case rel=>exact⟨(wrap64 (rA+cV)),(wrap64 (mI+1)),zz6,zz6,H',⟨by have:=HK1.out;have:=HK2.out;have:=HJ6.out;have:=HK4.out;omega⟩,⟨bAo⟩,⟨by(with_reducible repeat(first|apply Kd.aB6|apply Kd.aB5|apply Kd.aBd));exact sI.out⟩,⟨zz1⟩,⟨zz0⟩⟩
         rw[if_neg c13]at H;have jU:=zdN c13;clear c13;obtain⟨cM,bMx,H⟩:=zO_ H;(try dsimp only at H);have A19:=zK_ bMx;clear bMx;by_cases c20:cM=true
         ·subst c20;rw[if_pos rfl]at H;have H':=zK_ H;clear H;(go_wp2_with (first|((with_reducible refine aA5 (f:=73) rfl ?_);refine aB8 (some 40) rfl rfl Tryz.func73 (by kernel_rfl) rfl #[.slice bMs cK.length bLl,.int .i64 jX] rfl zz3 ?_;(with_reducible refine(aBy.calls k4 _ _ cK jX true _ ?side1 ?side2 A19.out).mono ?_);(case side1=>repeat(first|exact(Kd.aAl mV.out).2.2|(with_reducible refine Kd.aCy ?_ _)|(with_reducible refine Kd.aCx ?_ _)|(with_reducible refine Kd.aDf ?_)));(case side2=>exact(Kd.aAl mV.out).2.1);rintro e w' ⟨rfl,⟨nd,rfl⟩⟩;refine⟨_,rfl,?_⟩)));go_roundg k4;(case measure=>have:=HK1.out;have:=HK2.out;have:=HJ6.out;have:=HK4.out;omega);case rel=>exact⟨(oM),(wrap64 (jX+1)),zz6,zz6,H',⟨by have:=HK1.out;have:=HK2.out;have:=HJ6.out;have:=HK4.out;omega⟩,⟨bAo⟩,⟨zz1⟩,⟨zz0⟩⟩
         replace c20:=zdB c20;subst c20;rw[if_neg (show ¬ (false=true) by decide)]at H;by_cases c21:0<=jX;rotate_left
         ·rw[if_neg c21]at H;exact absurd H (by simp)
         rw[if_pos c21]at H;have pM:=zdY c21;clear c21;by_cases c22:jX<(l1.length:Int);rotate_left
         ·rw[if_neg c22]at H;exact absurd H (by simp)
         rw[if_pos c22]at H;have pL:=zdY c22;clear c22;by_cases c23:(rd l1 jX)<rA
         ·rw[if_pos c23]at H;have yV:=zdY c23;clear c23;have H':=zK_ H;clear H;(go_wp2_with (first|((with_reducible refine aA5 (f:=73) rfl ?_);refine aB8 (some 40) rfl rfl Tryz.func73 (by kernel_rfl) rfl #[.slice bMs cK.length bLl,.int .i64 jX] rfl zz3 ?_;(with_reducible refine(aBy.calls k4 _ _ cK jX false _ ?side1 ?side2 A19.out).mono ?_);(case side1=>repeat(first|exact(Kd.aAl mV.out).2.2|(with_reducible refine Kd.aCy ?_ _)|(with_reducible refine Kd.aCx ?_ _)|(with_reducible refine Kd.aDf ?_)));(case side2=>exact(Kd.aAl mV.out).2.1);rintro e w' ⟨rfl,⟨nd,rfl⟩⟩;refine⟨_,rfl,?_⟩;have bFo:0<=(jX:Int):=zdT zz4;have bFh:jX<(l1.length:Int):=zdT zz4;obtain⟨FF,bP1,lU⟩:=Kd.aCl HR1.out jX bFo bFh;cases bP1;replace lU:=(HB.out.cell (World.block_lt_of_cell? w _ lU)).trans lU;replace bFo:=eq_true bFo;replace bFh:=eq_true bFh)));go_roundg k4;(case measure=>have:=HK1.out;have:=HK2.out;have:=HJ6.out;have:=HK4.out;omega);case rel=>exact⟨(jX),(wrap64 (jX+1)),zz6,zz6,H',⟨by have:=HK1.out;have:=HK2.out;have:=HJ6.out;have:=HK4.out;omega⟩,⟨bAo⟩,⟨zz1⟩,⟨zz0⟩⟩
         rw[if_neg c23]at H;have yV:=zdN c23;clear c23;have H':=zK_ H;clear H;(go_wp2_with (first|((with_reducible refine aA5 (f:=73) rfl ?_);refine aB8 (some 40) rfl rfl Tryz.func73 (by kernel_rfl) rfl #[.slice bMs cK.length bLl,.int .i64 jX] rfl zz3 ?_;(with_reducible refine(aBy.calls k4 _ _ cK jX false _ ?side1 ?side2 A19.out).mono ?_);(case side1=>repeat(first|exact(Kd.aAl mV.out).2.2|(with_reducible refine Kd.aCy ?_ _)|(with_reducible refine Kd.aCx ?_ _)|(with_reducible refine Kd.aDf ?_)));(case side2=>exact(Kd.aAl mV.out).2.1);rintro e w' ⟨rfl,⟨nd,rfl⟩⟩;refine⟨_,rfl,?_⟩;have bFo:0<=(jX:Int):=zdT zz4;have bFh:jX<(l1.length:Int):=zdT zz4;obtain⟨FF,bP1,lU⟩:=Kd.aCl HR1.out jX bFo bFh;cases bP1;replace lU:=(HB.out.cell (World.block_lt_of_cell? w _ lU)).trans lU;replace bFo:=eq_true bFo;replace bFh:=eq_true bFh)));go_roundg k4;(case measure=>have:=HK1.out;have:=HK2.out;have:=HJ6.out;have:=HK4.out;omega);case rel=>exact⟨(oM),(wrap64 (jX+1)),zz6,zz6,H',⟨by have:=HK1.out;have:=HK2.out;have:=HJ6.out;have:=HK4.out;omega⟩,⟨bAo⟩,⟨zz1⟩,⟨zz0⟩⟩
end P
namespace Cf
def aJq (w:World) (base:Nat) (ok:Nat->Prop) (f:Nat->Nat) (cur:Array Value) (Z:List (List Int×Nat)):Prop :=
 ∀ (j:Nat) (x:List Int) (i:Nat),Z[j]? = some (x,i)->∃ v,cur[j]? = some v/\Kd.R (Kd.int .i64) 3 w base (λk=>ok k/\f k=i) v x
theorem bA5 {w:World} {base g n cap:Nat} {ok:Nat->Prop} {rows:List (List Int)} (h:Kd.S (Kd.slice 3 (Kd.int .i64)) 26 w base ok (.slice (some ⟨g,0,none⟩) n cap) rows) :
  ∃ f cur,base<=g/\ok g/\n=rows.length/\n<=cap/\cap<=maxLen/\cur.size=cap/\w.heap[g]? = some (.cells cur 26 (0,0))/\aJq w base (λk=>ok k/\k≠g) f cur rows.zipIdx:=by
 obtain⟨f,h0,inner,ho,hr⟩:=h
 rw[List.length_zipIdx]at ho
 have hn:=ho.1
 rcases ho.2 with ⟨hv,_⟩|⟨g',cap',cur,hv,hb,hc,hnc,hcm,hcs,htk⟩
 ·cases hv
 ·injection hv with hA hN hC
  injection hA with hA
  injection hA with hA
  subst hA
  subst hC
  have hl:(rows.length:Nat)=n:=hN.symm
  refine⟨f,cur,hb,h0 g rfl,hl.symm,by omega,hcm,by rw[hcs];exact Nat.mul_one _,hc,?_⟩
  intro j x i hj
  have hM:=hr.2 j (x,i) hj
  obtain⟨v,hv2,hR⟩:=hM
  refine⟨v,?_,Kd.aBs hR λk hk=>⟨⟨hk.1.1,λe=>hk.1.2 (by rw[e];rfl)⟩,hk.2⟩⟩
  have e1:((inner.drop (j*1)).take 1)=[v]:=hv2
  rw[Nat.mul_one]at e1
  have hjl:j<rows.length:=by have:=(List.getElem?_eq_some_iff.1 hj).1;rwa[List.length_zipIdx]at this
  have e2:inner[j]? = some v:=by
   have h1:=congrArg (λl:List Value=>l[0]?) e1
   simp only[List.getElem?_take,List.getElem?_drop]at h1
   simpa using h1
  rw[<-htk,List.getElem?_take,if_pos (by show j<rows.length*1;omega)]at e2
  simpa using e2
theorem aTh {w:World} {base g cap:Nat} {ok:Nat->Prop} {f:Nat->Nat} {cur:Array Value} {rows:List (List Int)} (hb:base<=g) (hok:ok g) (hn:rows.length<=cap) (hcm:cap<=maxLen) (hcs:cur.size=cap) (hc:w.heap[g]? = some (.cells cur 26 (0,0))) (hH:aJq w base ok f cur rows.zipIdx) :
  Kd.S (Kd.slice 3 (Kd.int .i64)) 26 w base ok (.slice (some ⟨g,0,none⟩) rows.length cap) rows:=by
 have hz:rows.zipIdx.length=rows.length:=List.length_zipIdx
 refine⟨f,λk hk=>?_,cur.toList.take rows.length,?_,?_⟩
 ·have:g=k:=by simpa[Value.ownBlock]using hk
  rw[<-this];exact hok
 ·rw[hz]
  refine⟨?_,.inr ⟨g,cap,cur,rfl,hb,hc,hn,hcm,by rw[hcs];exact(Nat.mul_one _).symm,?_⟩⟩
  ·show _=rows.length*1
   rw[List.length_take,show cur.toList.length=cap from hcs,Nat.min_eq_left hn,Nat.mul_one]
  ·show cur.toList.take (rows.length*1)=_
   rw[Nat.mul_one]
 ·refine⟨?_,λj p hj=>?_⟩
  ·show _=rows.zipIdx.length*1
   rw[hz,List.length_take,show cur.toList.length=cap from hcs,Nat.min_eq_left hn,Nat.mul_one]
  ·obtain⟨x,i⟩:=p
   obtain⟨v,hv,hR⟩:=hH j x i hj
   have hjl:j<rows.length:=by have:=(List.getElem?_eq_some_iff.1 hj).1;rwa[List.length_zipIdx]at this
   refine⟨v,?_,Kd.aBs (Kd.aDk hR hc (by decide)) λk hk=>⟨⟨hk.1.1,λe=>hk.2 (by simpa[Value.ownBlock]using e)⟩,hk.1.2⟩⟩
   show ((cur.toList.take rows.length).drop (j*1)).take 1=[v]
   have e:(cur.toList.take rows.length)[j]? = some v:=by
    rw[List.getElem?_take,if_pos hjl]
    simpa using hv
   obtain⟨hl,he⟩:=List.getElem?_eq_some_iff.1 e
   rw[Nat.mul_one,List.drop_eq_getElem_cons hl,he]
   rfl
def aHq (p:List Int->Bool) (rows:List (List Int)) (j:Nat):List (List Int×Nat):=(rows.zipIdx.take j).filter λx => !p x.1
theorem aLj (p:List Int->Bool) {rows:List (List Int)} {j:Nat} (h:j<rows.length):aHq p rows (j+1)=aHq p rows j++(if p rows[j]=true then [] else [(rows[j],j)]):=by
 have hz:rows.zipIdx[j]? = some (rows[j],j):=by rw[List.getElem?_zipIdx,zdH h,Nat.zero_add];rfl
 unfold aHq
 rw[List.take_add_one,hz,List.filter_append]
 congr 1
 by_cases c:p rows[j]=true
 ·rw[if_pos c];simp[c]
 ·rw[if_neg c];simp[c]
theorem aR3 (p:List Int->Bool) (rows:List (List Int)):(aHq p rows rows.length).map (·.1)=rows.filter λx => !p x:=by
 unfold aHq
 rw[List.take_of_length_le (by rw[List.length_zipIdx];exact Nat.le_refl _)]
 have h:=List.filter_map (f:=λx:List Int×Nat=>x.1) (p:=λx => !p x) (l:=rows.zipIdx)
 rw[List.zipIdx_map_fst]at h
 exact h.symm
theorem aT0 (p:List Int->Bool) (rows:List (List Int)) (j:Nat):((aHq p rows j).map (·.2)).Nodup:=by
 have h1:(aHq p rows j).Sublist rows.zipIdx:=(List.filter_sublist).trans (List.take_sublist _ _)
 have h2:=h1.map (·.2)
 refine h2.nodup ?_
 rw[List.zipIdx_map_snd]
 exact List.nodup_range'
theorem aWn {w:World} {base:Nat} {ok:Nat->Prop} {f:Nat->Nat} {cur:Array Value} {Z:List (List Int×Nat)} (h:aJq w base ok f cur Z) {v:Value} {x:List Int} {t:Nat} (hl:Z.length<cur.size) (hR:Kd.R (Kd.int .i64) 3 w base (λk=>ok k/\f k=t) v x):aJq w base ok f (cur.setIfInBounds Z.length v) (Z++[(x,t)]):=by
 intro j y i hj
 by_cases e:j<Z.length
 ·rw[List.getElem?_append_left e]at hj
  obtain⟨u,hu,hRu⟩:=h j y i hj
  exact⟨u,by rw[Array.getElem?_setIfInBounds_ne (by omega)];exact hu,hRu⟩
 ·have hjl:=(List.getElem?_eq_some_iff.1 hj).1
  rw[List.length_append,List.length_singleton]at hjl
  obtain rfl:j=Z.length:=by omega
  rw[List.getElem?_append_right (Nat.le_refl _),Nat.sub_self]at hj
  obtain⟨rfl,rfl⟩:=Prod.mk.inj (zdI hj)
  exact⟨v,by rw[Array.getElem?_setIfInBounds_self_of_lt hl],hR⟩
theorem aWm {w:World} {base:Nat} {ok:Nat->Prop} {f:Nat->Nat} {cur:Array Value} {Z:List (List Int×Nat)} (h:aJq w base ok f cur Z) (n:Nat):aJq w base ok f cur (Z.take n):=by
 intro j x i hj
 rw[List.getElem?_take]at hj
 split at hj
 ·exact h j x i hj
 ·cases hj
theorem aTg {w:World} {base:Nat} {ok:Nat->Prop} {f:Nat->Nat} {cur cur':Array Value} {Z:List (List Int×Nat)} (h:aJq w base ok f cur Z) (hc:∀ j,j<Z.length->cur'[j]? = cur[j]?):aJq w base ok f cur' Z:=by
 intro j x i hj
 obtain⟨v,hv,hR⟩:=h j x i hj
 exact⟨v,(hc j (List.getElem?_eq_some_iff.1 hj).1).trans hv,hR⟩
theorem aGx {w w1:World} {base:Nat} {ok:Nat->Prop} {f:Nat->Nat} {cur:Array Value} {Z:List (List Int×Nat)} (h:aJq w base ok f cur Z) (hm:∀ k,ok k->k<w.heap.size->w1.heap[k]? = w.heap[k]?):aJq w1 base ok f cur Z:=λj x i hj=>by
 obtain⟨v,hv,hR⟩:=h j x i hj
 exact⟨v,hv,Kd.aHh hR λk hk hlt=>hm k hk.1 hlt⟩
theorem aZ1 (p:List Int->Bool) (rows:List (List Int)) {i:Nat} (hi:i<=rows.length) (h:∀ j,(hj:j<rows.length)->j<i->p rows[j]=false):aHq p rows i=rows.zipIdx.take i:=by
 unfold aHq
 rw[List.filter_eq_self]
 intro x hx
 obtain⟨j,hj,rfl⟩:=List.getElem_of_mem hx
 rw[List.length_take,List.length_zipIdx]at hj
 rw[List.getElem_take,List.getElem_zipIdx]
 simp only
 rw[h j (by omega) (by omega)]
 rfl
theorem bJw {w:World} {base g cap:Nat} {ok:Nat->Prop} {f:Nat->Nat} {cur:Array Value} {rows:List (List Int)} {p:List Int->Bool} (hb:base<=g) (hok:ok g) (hn:rows.length<=cap) (hcm:cap<=maxLen) (hcs:cur.size=cap) (hc:w.heap[g]? = some (.cells cur 26 (0,0))) (hH:aJq w base ok f cur (aHq p rows rows.length)) :
  Kd.S (Kd.slice 3 (Kd.int .i64)) 26 w base ok (.slice (some ⟨g,0,none⟩) (rows.filter λx => !p x).length cap) (rows.filter λx => !p x):=by
 have hl:(rows.filter λx => !p x).length<=cap:=Nat.le_trans (List.length_filter_le _ _) hn
 refine aTh (f:=λk=>((aHq p rows rows.length).map (·.2)).idxOf (f k)) hb hok hl hcm hcs hc ?_
 intro j x i hj
 rw[<-aR3 p rows]at hj
 rw[List.getElem?_zipIdx,Nat.zero_add,List.getElem?_map]at hj
 obtain⟨y,hy,he⟩:=Option.map_eq_some_iff.1 hj
 obtain⟨z,hz,hz2⟩:=Option.map_eq_some_iff.1 hy
 obtain⟨z1,z2⟩:=z
 subst hz2
 obtain⟨rfl,rfl⟩:=Prod.mk.inj he
 obtain⟨v,hv,hR⟩:=hH j z1 z2 hz
 refine⟨v,hv,Kd.aBs hR λk hk=>⟨hk.1,?_⟩⟩
 show ((aHq p rows rows.length).map (·.2)).idxOf (f k)=j
 have hm:((aHq p rows rows.length).map (·.2))[j]? = some z2:=by rw[List.getElem?_map,hz];rfl
 obtain⟨hjl,hje⟩:=List.getElem?_eq_some_iff.1 hm
 rw[hk.2,<-hje]
 exact(aT0 p rows rows.length).idxOf_getElem j hjl
def aNh (m:Nat) (d:List Int):List (List Int):=(List.range m).map λt:Nat=>d++[(t:Int)]
theorem aRf (d:List Int):aNh 0 d=[]:=rfl
theorem aRg (m:Nat) (d:List Int):aNh (m+1) d=aNh m d++[d++[(m:Int)]]:=by
 unfold aNh
 rw[List.range_succ,List.map_append]
 rfl
theorem aPj (m:Nat) (d:List Int):(aNh m d).length=m:=by unfold aNh;simp
def aHw (c:Nat->Nat):Nat->List (List Int)
 | 0=>[[]]
 | v+1=>(aHw c v).flatMap (aNh (c v))
def aSv (m:Nat) (L:List (List Int)) (i:Nat):List (List Int):=(L.take i).flatMap (aNh m)
theorem aQr (m:Nat) {L:List (List Int)} {i:Nat} {x:List Int} (h:L[i]? = some x):aSv m L (i+1)=aSv m L i++aNh m x:=by
 unfold aSv
 rw[List.take_add_one,h,List.flatMap_append]
 simp
theorem aUt (c:Nat->Nat) (v:Nat):aSv (c v) (aHw c v) (aHw c v).length=aHw c (v+1):=by
 unfold aSv
 rw[List.take_length]
 rfl
theorem aJc (m:Nat):∀ L:List (List Int),(L.flatMap (aNh m)).length=L.length*m
 | []=>by simp
 | x::L=>by
  rw[List.flatMap_cons,List.length_append,aPj,aJc m L,List.length_cons,Nat.add_mul,Nat.one_mul,Nat.add_comm]
theorem aUs (m:Nat) (L:List (List Int)) (i:Nat):(aSv m L i).length<=L.length*m:=by
 unfold aSv
 rw[aJc,List.length_take]
 exact Nat.mul_le_mul_right _ (Nat.min_le_right _ _)
theorem aVf {c:Nat->Nat} {b:Nat}:∀ {v:Nat},(∀ u,u<v->c u<=b)->(aHw c v).length<=b^v
 | 0,_=>Nat.le_refl _
 | v+1,h=>by
  show ((aHw c v).flatMap (aNh (c v))).length<=_
  rw[aJc,Nat.pow_succ]
  exact Nat.mul_le_mul (aVf λu hu=>h u (by omega)) (h v (by omega))
theorem aIi {c:Nat->Nat}:∀ {v:Nat} {x:List Int},x∈aHw c v->x.length=v/\∀ (j:Nat) (h:j<x.length),0<=x[j]/\x[j]<(c j:Int)
 | 0,x,h=>by
  rw[aHw,List.mem_singleton]at h
  subst h
  exact⟨rfl,λj h=>absurd h (by simp)⟩
 | v+1,x,h=>by
  rw[aHw,List.mem_flatMap]at h
  obtain⟨d,hd,hx⟩:=h
  obtain⟨h1,h2⟩:=aIi hd
  unfold aNh at hx
  obtain⟨t,ht,rfl⟩:=List.mem_map.1 hx
  rw[List.mem_range]at ht
  refine⟨by simp[h1],λj hj=>?_⟩
  by_cases e:j<d.length
  ·rw[List.getElem_append_left e]
   exact h2 j e
  ·rw[List.length_append,List.length_singleton]at hj
   obtain rfl:j=d.length:=by omega
   rw[List.getElem_append_right (Nat.le_refl _)]
   simp only[Nat.sub_self,List.getElem_singleton]
   rw[h1]
   omega
end Cf
namespace P
def aA6.pr (k:Nat) (a0:Int) (es:List S46) (q:Int) (x:List Int):Bool:=match aB1.f k a0 es x q with|some r=>decide ((r.length:Int)<a0)|none=>false
structure aA6.Ctx (a0 q:Int) (es:List S46) (A0:Option Addr) (c0 bg bq g cap:Nat) (ok:Nat->Prop) (f:Nat->Nat) (cur:Array Value) (rows:List (List Int)) (w0 w:World):Prop where
 hb:Below w0.heap.size w0 w
 hg:w.heap[bg]? = some (.cells #[.int .i64 a0,.slice A0 es.length c0] 25 (0,0))
 hq:w.heap[bq]? = some (.cells #[.int .i64 q] 3 (0,0))
 hc:w.heap[g]? = some (.cells cur 26 (0,0))
 hH:Cf.aJq w w0.heap.size ok f cur rows.zipIdx
theorem aA6.Ctx.step {a0 q:Int} {es:List S46} {A0:Option Addr} {c0 bg bq g cap:Nat} {ok:Nat->Prop} {f:Nat->Nat} {cur:Array Value} {rows:List (List Int)} {w0 w w1:World} (h:aA6.Ctx a0 q es A0 c0 bg bq g cap ok f cur rows w0 w) (hb:Below w.heap.size w w1):aA6.Ctx a0 q es A0 c0 bg bq g cap ok f cur rows w0 w1 :=
 ⟨aA1 h.hb hb,aA4 h.hg hb,aA4 h.hq hb,aA4 h.hc hb,Cf.aGx h.hH λk _ hlt=>hb.block k hlt⟩
theorem aA6.Ctx.row {a0 q:Int} {es:List S46} {A0:Option Addr} {c0 bg bq g cap:Nat} {ok:Nat->Prop} {f:Nat->Nat} {cur:Array Value} {rows:List (List Int)} {w0 w:World} (h:aA6.Ctx a0 q es A0 c0 bg bq g cap ok f cur rows w0 w) {j:Nat} (hj:j<rows.length):∃ A c,cur[j]? = some (.slice A rows[j].length c)/\Kd.R (Kd.int .i64) 3 w w0.heap.size (λk=>ok k/\f k=j) (.slice A rows[j].length c) rows[j]:=by
 obtain⟨v,hv,hR⟩:=h.hH j rows[j] j (by rw[List.getElem?_zipIdx,zdH hj,Nat.zero_add];rfl);obtain⟨A,c,e⟩:=Kd.aBr hR;subst e;exact⟨A,c,hv,hR⟩
def aA6.T1:Bool×List (List Nat×List Nat):=(true,[([],[]),([],[]),([],[]),([0,1,2],[0,1,2]),([3],[3]),([],[]),([5],[5]),([4,6],[4,6]),([7,3,0,1,2,3,4,5,6,7],[7])])
def aA6.B1:List Nat:=[0,0,0,7,15,0,32,127,255]
theorem aA6.bSt:aIo .any (opsOf Tryz.f45 1)=aA6.T1:=by kernel_rfl
theorem aA6.bPj:aFn aA6.T1.2 aA6.B1=true:=by kernel_rfl
theorem aA6.clo (k:Nat) (a0 q:Int) (es:List S46) (A0:Option Addr) (c0 bg bq:Nat) (w:World) (hE:Kd.C k46 w A0 es.length es) (hc0:es.length<=c0) (hg:w.heap[bg]? = some (.cells #[.int .i64 a0,.slice A0 es.length c0] 25 (0,0))) (hq:w.heap[bq]? = some (.cells #[.int .i64 q] 3 (0,0))) (Ax:Option Addr) (cx:Nat) (x r:List Int) (hx:Kd.C (Kd.int .i64) w Ax x.length x) (hcx:x.length<=cx) (h:aB1.f k a0 es x q=some r) :
  Calls Tryz.prog 45 #[.slice Ax x.length cx,.pointer (some ⟨bg,0,none⟩),.pointer (some ⟨bq,0,none⟩)] w λe w'=>e = .returned (.bool (aA6.pr k a0 es q x))/\Below w.heap.size w w':=by
 have aI5:=Tryz.underlying25;(have hpr:aA6.pr k a0 es q x=decide ((r.length:Int)<a0):=by unfold aA6.pr;rw[h]);rw[hpr];have HE:=aA2.mk hE;have HC:=aA2.mk hc0;have HG:=aA2.mk hg;have HQ:=aA2.mk hq;have HX:=aA2.mk hx;have HCX:=aA2.mk hcx;have HH:=aA2.mk h;clear hE hc0 hg hq hx hcx h hpr;go_enter Tryz.func45,Tryz.ntmps45;(try go_wp2);refine aFp (n:=9) (S:=λw'=>w'.cell? ⟨bg,0,none⟩=some (.int .i64 a0)/\w'.cell? ⟨bg,1,none⟩=some (.slice A0 es.length c0)/\w'.cell? ⟨bq,0,none⟩=some (.int .i64 q)) (ds:=[]) (zM 9 0) (by kernel_rfl) rfl rfl ⟨(aAc HG.out 0).trans rfl,(aAc HG.out 1).trans rfl,(aAc HQ.out 0).trans rfl⟩ (λhHeld=>?_);refine aE1 aA6.bSt aA6.bPj (λHT_ HW_=>?_);have HB1:=aA2.mk (aGi (Below.refl w.heap.size w));have HG1:=aA2.mk (aA4 HG.out HB1.out);have QO:=aA2.mk (aA4 HQ.out HB1.out);have HE1:=aA2.mk (Kd.aC4 HE.out HB1.out);have HX1:=aA2.mk (Kd.aC4 HX.out HB1.out);generalize w.drew=wd at HB1 HG1 QO HE1 HX1 hHeld ⊢;refine zQ 1 6 (zM 9 2) ?_
 refine zQ 5 10 (zM 9 34) ?_
 refine aE6 (i:=0) (N:=some 5) (v:=?_) (a':=?_) (zM 9 35) rfl rfl (aC7 HT_.out HW_.out (by kernel_rfl)) (λ_ _ _ h=>h) (Or.inl ⟨by rfl,?_⟩) hHeld ?_ ?_;rotate_left
 ·rintro w' ⟨s0,s1,s2⟩;exact zzT
 rotate_left
 ·exact zzS
 refine aE6 (i:=2) (N:=some 7) (v:=?_) (a':=?_) (zM 9 39) rfl rfl (aC7 HT_.out HW_.out (by kernel_rfl)) (λ_ _ _ h=>h) (Or.inl ⟨by rfl,?_⟩) hHeld ?_ ?_;rotate_left
 ·rintro w' ⟨s0,s1,s2⟩;exact zzT
 rotate_left
 ·exact zzS
 refine aE6 (i:=6) (N:=some 11) (v:=?_) (a':=?_) (zM 9 103) rfl rfl (aC7 HT_.out HW_.out (by kernel_rfl)) (λ_ _ _ h=>h) (Or.inl ⟨by rfl,?_⟩) hHeld ?_ ?_;rotate_left
 ·rintro w' ⟨s0,s1,s2⟩;exact zzT
 rotate_left
 ·exact zzS
 refine aHv (i:=3) (N:=some 8) (zM 9 111) rfl rfl (aE3 HT_.out (by kernel_rfl)) (by decide) (λK hK=>?_);refine aG5 Tryz.func46 (by kernel_rfl) rfl #[.agg #[.int .i64 a0,.slice A0 es.length c0],.slice Ax x.length cx,.int .i64 q] (by rfl) rfl rfl (by(try simp only[List.map_toArray,List.map_cons,List.map_nil]);first|done|rfl) ?_;refine(aB1.calls k a0 _ _ es _ _ x q r _ HE1.out HC.out HX1.out HCX.out HH.out).mono ?_;rintro e w2 ⟨v2,rfl,hR,hb⟩;obtain⟨Ar,cr,er⟩:=Kd.aBr hR;subst er;have HB2:=aA2.mk (aA1 HB1.out hb);have HG2:=aA2.mk (aA4 HG1.out hb);have Q3:=aA2.mk (aA4 QO.out hb);clear hR hb;refine⟨_,rfl,?_⟩;refine hK.out _ _ ⟨(aAc HG2.out 0).trans rfl,(aAc HG2.out 1).trans rfl,(aAc Q3.out 0).trans rfl⟩ (λhHeld=>?_);clear hK K;refine aEd (a':=?_) ?_ ?_;rotate_left
 ·show Act.put _ (some 8) _=_;exact zzS
 refine zQ 4 9 (zM 9 127) ?_
 refine zQ 7 12 (zM 9 255) ?_
 refine zQ 8 4 (zM 9 511) ?_
 refine aH4 (aF8 HT_.out (by kernel_rfl)) ?_;(try go_wp2);go_ret;exact⟨rfl,HB2.out⟩
theorem aA6.idx (k:Nat) (a0 q:Int) (es:List S46) (A0:Option Addr) (c0 bg bq g cap:Nat) (ok:Nat->Prop) (f:Nat->Nat) (cur:Array Value) (rows:List (List Int)) (w0 w:World) (hE:Kd.C k46 w0 A0 es.length es) (hc0:es.length<=c0) (hI:aA6.Ctx a0 q es A0 c0 bg bq g cap ok f cur rows w0 w) (hl:rows.length<=1000000000) (hcap:rows.length<=cap) (hP:∀ x∈rows,(aB1.f k a0 es x q).isSome=true) :
  Calls Tryz.prog 71 #[.slice (some ⟨g,0,none⟩) rows.length cap,.func (.func 45) #[] #[.pointer (some ⟨bg,0,none⟩),.pointer (some ⟨bq,0,none⟩)]] w λe w'=>Below w.heap.size w w'/\((e = .returned (.int .i64 (-1))/\∀ x∈rows,aA6.pr k a0 es q x=false)∨∃ i:Nat,e = .returned (.int .i64 (i:Int))/\i<rows.length/\(∀ j,(h:j<rows.length)->j<i->aA6.pr k a0 es q rows[j]=false)/\∀ h:i<rows.length,aA6.pr k a0 es q rows[i]=true):=by
 have HE:=aA2.mk hE;have HC:=aA2.mk hc0;have HI:=aA2.mk hI;have HL:=aA2.mk hl;have HCAP:=aA2.mk hcap;have HP:=aA2.mk hP;clear hE hc0 hI hl hcap hP;go_enter Tryz.func71,Tryz.ntmps71;go_wp2;(go_loopw [8] (λv8 wr=>∃ i:Nat,v8 = .int .i64 (i:Int)/\aA2 (i<=rows.length)/\aA2 (aA6.Ctx a0 q es A0 c0 bg bq g cap ok f cur rows w0 wr)/\aA2 (Below w.heap.size w wr)/\aA2 (∀ j,(h:j<rows.length)->j<i->aA6.pr k a0 es q rows[j]=false)) (λv _=>rows.length-(intOf v).toNat));case atStart=>exact⟨0,rfl,⟨Nat.zero_le _⟩,HI,⟨Below.refl _ _⟩,⟨λj _ h=>absurd h (by omega)⟩⟩
 case round =>
  obtain⟨i,rfl,HIL,HIr,HBr,HF⟩:=hrel;by_cases hlt:i<rows.length;rotate_left
  ·have d0:decide ((i:Int)<(rows.length:Int))=false:=zdN (by omega);have d1:decide (i<rows.length)=false:=zdN hlt;(have hi:i=rows.length:=by have:=HIL.out;omega);clear hlt;go_wp2;go_ret;refine⟨HBr.out,Or.inl ⟨rfl,λx hx=>?_⟩⟩;obtain⟨j,hj,rfl⟩:=List.getElem_of_mem hx;exact HF.out j hj (by omega)
  have d0:decide ((i:Int)<(rows.length:Int))=true:=zdY (by omega);have d1:decide (i<rows.length)=true:=zdY hlt;(have p1:(0:Int)<=(i:Int):=by omega);(have p2:(i:Int)<(rows.length:Int):=by omega);(have hib:(i:Int)<=1000000000:=by have:=HL.out;omega);obtain⟨Ai,ci,bQw,hRi⟩:=HIr.out.row hlt;have hcell:wr.cell? ⟨g,i,none⟩=some (.slice Ai rows[i].length ci):=(aAc HIr.out.hc i).trans bQw;obtain⟨r,hr⟩:=Option.isSome_iff_exists.1 (HP.out _ (List.getElem_mem hlt));have HRR:=aA2.mk hr;have HRi:=aA2.mk (Kd.aAl hRi);have HLT:=aA2.mk hlt;clear bQw hRi hr;generalize hx:rows[i]'HLT.out=x at hcell HRR HRi;have HXX:=aA2.mk hx;clear hx hlt;(go_wp2_with fail);refine(aA6.clo k a0 q es A0 c0 bg bq _ (Kd.aC4 HE.out HIr.out.hb) HC.out HIr.out.hg HIr.out.hq _ _ x r HRi.out.2.2 HRi.out.2.1 HRR.out).mono ?_;rintro e w1 ⟨rfl,hb⟩;have HI1:=aA2.mk (HIr.out.step hb);have HB1:=aA2.mk (aA1 HBr.out hb);clear hb hcell
  cases hp:aA6.pr k a0 es q x with
  | true =>
   go_wp2;go_ret;exact⟨HB1.out,Or.inr ⟨i,rfl,HLT.out,HF.out,λh=>by rw[HXX.out];exact hp⟩⟩
  | false =>
   have HPP:=aA2.mk hp;clear hp;go_wp2;go_roundw
   case rel =>
    refine⟨i+1,by go_num,⟨HLT.out⟩,HI1,HB1,⟨λj h hj=>?_⟩⟩;by_cases e:j=i
    ·subst e;rw[HXX.out];exact HPP.out
    ·exact HF.out j h (by omega)
   case measure =>
    have:=HLT.out;(simp[intOf]);omega
theorem aA6.bU5 {P:Program} (t e:TypeId) {i:TypeInfo} (ht:P.underlying t=some (.slice e)) (hi:P.info? e=some i) (hsz:i.size=1) (g n c l:Nat) (hl:l<=n) (hc:l<c):∀ W:World,(Instr.slice t (.slice (some ⟨g,0,none⟩) n c) (some (.int .i64 (l:Int))) none none).run P W = .ok (.slice (some ⟨g,l,none⟩) (n-l) (c-l)) W:=by
 intro W;(have hel:P.elem t=e:=by simp[Program.elem,ht]);(have hu:P.underlying t=some (.slice (P.elem t)):=by rw[hel];exact ht);rw[run_slice_l W t (some ⟨g,0,none⟩) n c hu .i64 (l:Int) (by omega) (by omega),hel];(have hne:¬ (c=l):=by omega);(simp[sizeOf,typeInfo,hi,hsz,sliced,Result.andThen,Addr.add,hne]);omega
theorem aA6.bU6 {P:Program} (t e:TypeId) {i:TypeInfo} (ht:P.underlying t=some (.slice e)) (hi:P.info? e=some i) (hsz:i.size=1) (g n c h:Nat) (hc:h<=c):∀ W:World,(Instr.slice t (.slice (some ⟨g,0,none⟩) n c) none (some (.int .i64 (h:Int))) none).run P W = .ok (.slice (some ⟨g,0,none⟩) h c) W:=by
 intro W;(have hel:P.elem t=e:=by simp[Program.elem,ht]);(have hu:P.underlying t=some (.slice (P.elem t)):=by rw[hel];exact ht);rw[run_slice_h W t (some ⟨g,0,none⟩) n c hu .i64 (h:Int) (by omega) (by omega),hel];simp[sizeOf,typeInfo,hi,hsz,sliced,Result.andThen,Addr.add]
theorem aA6.del (k:Nat) (a0 q:Int) (es:List S46) (A0:Option Addr) (c0 bg bq g cap:Nat) (ok:Nat->Prop) (f:Nat->Nat) (cur:Array Value) (rows:List (List Int)) (w0 w:World) (hE:Kd.C k46 w0 A0 es.length es) (hc0:es.length<=c0) (hI:aA6.Ctx a0 q es A0 c0 bg bq g cap ok f cur rows w0 w) (hl:rows.length<=1000000000) (hcap:rows.length<=cap) (hP:∀ x∈rows,(aB1.f k a0 es x q).isSome=true) (hcs:cur.size=cap) (hcm:cap<=maxLen) (hbg:w0.heap.size<=g) (hok:∀ k_,ok k_->k_≠g) (hne:bg≠g/\bq≠g) :
  Calls Tryz.prog 44 #[.slice (some ⟨g,0,none⟩) rows.length cap,.func (.func 45) #[] #[.pointer (some ⟨bg,0,none⟩),.pointer (some ⟨bq,0,none⟩)]] w λe w'=>∃ v:Value,e = .returned v/\Kd.S (Kd.slice 3 (Kd.int .i64)) 26 w' w0.heap.size (λk_=>ok k_∨k_=g) v (rows.filter λx => !aA6.pr k a0 es q x)/\Below w0.heap.size w0 w':=by
 have hidx:=aA6.idx k a0 q es A0 c0 bg bq g cap ok f cur rows w0 w hE hc0 hI hl hcap hP;have HE:=aA2.mk hE;have HC:=aA2.mk hc0;have HI:=aA2.mk hI;have HL:=aA2.mk hl;have HCAP:=aA2.mk (show rows.length<=cap/\cur.size=cap/\cap<=maxLen from ⟨hcap,hcs,hcm⟩);have HP:=aA2.mk hP;have HBG:=aA2.mk hbg;have HOK:=aA2.mk hok;have HNE:=aA2.mk hne;have bRl:=aA2.mk hidx;(have hnb:(rows.length:Int)<=1000000000:=by omega);clear hE hc0 hI hl hcap hP hcs hcm hbg hok hne hidx;go_enter Tryz.func44,Tryz.ntmps44;(go_wp2_with fail);refine bRl.out.mono ?_;rintro e w1 ⟨hb,hcase⟩;have HI1:=aA2.mk (HI.out.step hb);clear hb bRl;rcases hcase with ⟨rfl,hall⟩|⟨i0,rfl,hi0,hbef,hat⟩
 ·have bUu:=aA2.mk hall;clear hall;go_wp2;go_ret;(have ef:(rows.filter λx => !aA6.pr k a0 es q x)=rows:=List.filter_eq_self.2 λx hx=>by rw[bUu.out x hx];rfl);rw[ef];refine⟨_,rfl,Kd.aE4 (Cf.aTh (ok:=λk_=>ok k_∨k_=g) (f:=f) HBG.out (Or.inr rfl) HCAP.out.1 HCAP.out.2.2 HCAP.out.2.1 HI1.out.hc ?_) (λk_ h=>h),HI1.out.hb⟩;intro j x i hj;obtain⟨v,hv,hR⟩:=HI1.out.hH j x i hj;exact⟨v,hv,Kd.aBs hR λk_ h=>⟨Or.inl h.1,h.2⟩⟩
 ·have c0_:((i0:Int) == -1)=false:=beq_eq_false_iff_ne.2 (by omega);have c1_:decide ((i0:Int)=-1)=false:=zdN (by omega);obtain⟨jn,ej⟩:∃ x:Int,wrap64 ((i0:Int)+1)=x:=⟨_,rfl⟩;have ejw:IntKind.i64.wrap ((i0:Int)+1)=jn:=(aFm _).trans ej;have HJN:=aA2.mk (show jn=((i0+1:Nat):Int) from by rw[<-ej];unfold wrap64;omega);have HI0:=aA2.mk hi0;have bUt:=aA2.mk hbef;have HAT:=aA2.mk (hat HI0.out);clear hi0 hbef hat;go_wp2;go_loopw [5,6,7] (λv5 v6 v7 wr=>∃ (i j:Nat) (cr:Array Value),v5 = .int .i64 (i:Int)/\v6 = .int .i64 (j:Int)/\aA2 (i<j/\j<=rows.length/\(Cf.aHq (aA6.pr k a0 es q) rows j).length=i)/\aA2 (cr.size=cap/\wr.heap[g]? = some (.cells cr 26 (0,0)))/\aA2 (Cf.aJq wr w0.heap.size ok f cr (Cf.aHq (aA6.pr k a0 es q) rows j))/\aA2 (∀ t,t<rows.length->j<=t->cr[t]? = cur[t]?)/\aA2 (Below w0.heap.size w0 wr/\wr.heap[bg]? = some (.cells #[.int .i64 a0,.slice A0 es.length c0] 25 (0,0))/\wr.heap[bq]? = some (.cells #[.int .i64 q] 3 (0,0)))/\aA2 (Cf.aJq wr w0.heap.size ok f cur rows.zipIdx)) (λ_ v _ _=>rows.length-(intOf v).toNat)
  case atStart =>
   (have hz:(Cf.aHq (aA6.pr k a0 es q) rows (i0+1))=rows.zipIdx.take i0:=by rw[Cf.aLj _ HI0.out,if_pos HAT.out,List.append_nil];exact Cf.aZ1 _ rows (Nat.le_of_lt HI0.out) bUt.out);refine⟨i0,i0+1,cur,rfl,by rw[HJN.out],⟨by omega,HI0.out,?_⟩,⟨HCAP.out.2.1,HI1.out.hc⟩,⟨?_⟩,⟨λt _ _=>rfl⟩,⟨HI1.out.hb,HI1.out.hg,HI1.out.hq⟩,⟨HI1.out.hH⟩⟩
   ·rw[hz,List.length_take,List.length_zipIdx];have:=HI0.out;omega
   ·rw[hz];exact Cf.aWm HI1.out.hH _
  case round =>
   clear HI1;obtain⟨i,j,cr,rfl,rfl,HIJ,HCR,HZ,HT,HB,HH⟩:=hrel;(have hij:(i:Int)<(j:Int):=by have:=HIJ.out;omega);(have hi0:(0:Int)<=(i:Int):=by omega);by_cases hlt:j<rows.length;rotate_left
   ·have d0:decide ((j:Int)<(rows.length:Int))=false:=zdN (by omega);have d1:decide (j<rows.length)=false:=zdN hlt;(have hjn:j=rows.length:=by have:=HIJ.out;omega);(have hin:i<rows.length:=by have:=HIJ.out;omega);(have hic:i<cap:=by have:=HCAP.out.1;omega);(have hil:i<=cap:=by omega);obtain⟨it,hit,hzt,bG5,hbt⟩:=info_parts info26;have bTp:=aA6.bU5 (P:=Tryz.prog) 30 26 Tryz.underlying30 hit bG5 g rows.length cap i (Nat.le_of_lt hin) hic;have bTq:=aA6.bU6 (P:=Tryz.prog) 30 26 Tryz.underlying30 hit bG5 g rows.length cap i hil;(have hcl:∀ ty,(Builtin.clear_ #[30] ty #[.slice (some ⟨g,i,none⟩) (rows.length-i) (cap-i)]).run Tryz.prog wr = .ok (.tuple #[]) (wr.setCells g i (List.replicate (rows.length-i) (.slice none 0 0))):=λty=>Lib.run_clear_slice wr _ _ ty _ Tryz.underlying30 Tryz.zeroValue26 rfl rfl g i _ _ (by omega) (λt ht=>by rw[aAc HCR.out.2,Array.getElem?_eq_getElem (show i+t<cr.size by have:=HCR.out.1;have:=HCAP.out.1;omega)];rfl) (λt ht=>aA0 HCR.out.2 _));have HJ:=aA2.mk hjn;have HIN:=aA2.mk hin;clear hlt hit hzt bG5 hbt hjn;go_wp2;go_ret;obtain⟨cu2,hc2,hs2,ht2⟩:=aLy (List.replicate (rows.length-i) (Value.slice none 0 0)) i wr cr HCR.out.2 (by rw[List.length_replicate];have:=HCR.out.1;have:=HCAP.out.1;have:=HIN.out;omega);(have bKg:∀ k_,k_≠g->(wr.setCells g i (List.replicate (rows.length-i) (Value.slice none 0 0))).heap[k_]? = wr.heap[k_]?:=λk_ hk=>aLz _ i k_ hk);obtain⟨s1,s2,s3,s4⟩:=aKl g (List.replicate (rows.length-i) (Value.slice none 0 0)) i wr;(have hlen:(rows.filter λx => !aA6.pr k a0 es q x).length=i:=by rw[<-Cf.aR3,List.length_map,<-HJ.out];exact HIJ.out.2.2);have hZ:=HZ.out;rw[HJ.out]at hZ;have hK:=Cf.bJw (w:=wr.setCells g i (List.replicate (rows.length-i) (Value.slice none 0 0))) (base:=w0.heap.size) (g:=g) (cap:=cap) (ok:=λk_=>ok k_∨k_=g) (f:=f) (cur:=cu2) (rows:=rows) (p:=aA6.pr k a0 es q) HBG.out (Or.inr rfl) HCAP.out.1 HCAP.out.2.2 (hs2.trans HCR.out.1) hc2 ?hh
    case hh =>
     have hcells:∀ t,t<(Cf.aHq (aA6.pr k a0 es q) rows rows.length).length->cu2[t]? = cr[t]?:=by
      intro t ht;(have hti:t<i:=by have h_:=HIJ.out.2.2;rw[HJ.out]at h_;omega);rw[<-Array.getElem?_toList,<-Array.getElem?_toList,ht2,List.append_assoc,List.getElem?_append_left (by rw[List.length_take,Array.length_toList];have:=HCR.out.1;have:=HCAP.out.1;have:=HIN.out;omega),List.getElem?_take,if_pos hti]
     have h1:=Cf.aTg hZ hcells;(have h2:=Cf.aGx (w1:=wr.setCells g i (List.replicate (rows.length-i) (Value.slice none 0 0))) h1 λk_ h _=>bKg k_ (HOK.out k_ h));intro t x u ht;obtain⟨v,hv,hR⟩:=h2 t x u ht;exact⟨v,hv,Kd.aBs hR λk_ h=>⟨Or.inl h.1,h.2⟩⟩
    rw[hlen]at hK;refine⟨_,rfl,hK,⟨s1.trans HB.out.1.os,s2.trans HB.out.1.tape,s3.trans HB.out.1.output,by rw[s4];exact HB.out.1.size,λk_ hk=>(bKg k_ (by have:=HBG.out;omega)).trans (HB.out.1.block k_ hk)⟩⟩
   have d0:decide ((j:Int)<(rows.length:Int))=true:=zdY (by omega);have d1:decide (j<rows.length)=true:=zdY hlt;(have p1:(0:Int)<=(j:Int):=by omega);(have p2:(j:Int)<(rows.length:Int):=by omega);(have p3:(i:Int)<(rows.length:Int):=by omega);obtain⟨v,hv,hR⟩:=HH.out j rows[j] j (by rw[List.getElem?_zipIdx,zdH hlt,Nat.zero_add];rfl);obtain⟨Ai,ci,ei⟩:=Kd.aBr hR;subst ei;have hcell:wr.cell? ⟨g,j,none⟩=some (.slice Ai rows[j].length ci):=(aAc HCR.out.2 j).trans ((HT.out j hlt (Nat.le_refl _)).trans hv);obtain⟨r,hr⟩:=Option.isSome_iff_exists.1 (HP.out _ (List.getElem_mem hlt));have HRR:=aA2.mk hr;have HRi:=aA2.mk (Kd.aAl hR);have HRX:=aA2.mk hR;have HLT:=aA2.mk hlt;clear hv hR hr;generalize hx:rows[j]'HLT.out=x at hcell HRR HRi HRX;have HXX:=aA2.mk hx;clear hx hlt;(go_wp2_with fail);refine(aA6.clo k a0 q es A0 c0 bg bq _ (Kd.aC4 HE.out HB.out.1) HC.out HB.out.2.1 HB.out.2.2 _ _ x r HRi.out.2.2 HRi.out.2.1 HRR.out).mono ?_;rintro e w2 ⟨rfl,hb⟩;have bHh:=aA2.mk (show cr.size=cap/\w2.heap[g]? = some (.cells cr 26 (0,0)) from ⟨HCR.out.1,aA4 HCR.out.2 hb⟩);have HZ2:=aA2.mk (Cf.aGx HZ.out λk_ _ hlt=>hb.block k_ hlt);have HH2:=aA2.mk (Cf.aGx HH.out λk_ _ hlt=>hb.block k_ hlt);have HB2:=aA2.mk (show Below w0.heap.size w0 w2/\w2.heap[bg]? = some (.cells #[.int .i64 a0,.slice A0 es.length c0] 25 (0,0))/\w2.heap[bq]? = some (.cells #[.int .i64 q] 3 (0,0)) from ⟨aA1 HB.out.1 hb,aA4 HB.out.2.1 hb,aA4 HB.out.2.2 hb⟩);have bUo:=aA2.mk (Kd.aBn HRX.out hb);clear hb hcell HCR HZ HH HB HRX
   cases hp:aA6.pr k a0 es q x with
   | true =>
    have HPP:=aA2.mk hp;clear hp;go_wp2;go_roundw
    case rel =>
     (have hz:(Cf.aHq (aA6.pr k a0 es q) rows (j+1))=(Cf.aHq (aA6.pr k a0 es q) rows j):=by rw[Cf.aLj _ HLT.out,HXX.out,if_pos HPP.out,List.append_nil]);refine⟨i,j+1,cr,rfl,by go_num,⟨by have:=HIJ.out;omega,HLT.out,by rw[hz];exact HIJ.out.2.2⟩,bHh,⟨by rw[hz];exact HZ2.out⟩,⟨λt h1 h2=>HT.out t h1 (by omega)⟩,HB2,HH2⟩
    case measure =>
     have:=HLT.out;(simp[intOf]);omega
   | false =>
    have HPP:=aA2.mk hp;clear hp;obtain⟨old,hold⟩:∃ old,cr[i]? = some old:=⟨_,Array.getElem?_eq_getElem (show i<cr.size by have:=HIJ.out;have:=bHh.out.1;have:=HCAP.out.1;omega)⟩;have hzi:w2.cell? ⟨g,i,none⟩=some old:=(aAc bHh.out.2 i).trans hold;have hfz:=aA0 bHh.out.2 i;clear hold;go_wp2;go_roundw
    case rel =>
     clear hzi hfz;(have hz:(Cf.aHq (aA6.pr k a0 es q) rows (j+1))=(Cf.aHq (aA6.pr k a0 es q) rows j)++[(x,j)]:=by rw[Cf.aLj _ HLT.out,HXX.out,if_neg (by rw[HPP.out];simp)]);(have hset:∀ k_,ok k_->k_<w2.heap.size->(w2.setCell ⟨g,i,none⟩ (.slice Ai x.length ci)).heap[k_]? = w2.heap[k_]?:=λk_ h _=>Below.heap_setCell w2 _ _ k_ (HOK.out k_ h));refine⟨i+1,j+1,cr.setIfInBounds i (.slice Ai x.length ci),by go_num,by go_num,⟨by have:=HIJ.out;omega,HLT.out,by rw[hz,List.length_append,HIJ.out.2.2];rfl⟩,⟨by rw[Array.size_setIfInBounds];exact bHh.out.1,aNo bHh.out.2 i _⟩,⟨?_⟩,⟨λt h1 h2=>?_⟩,⟨aAg HB2.out.1 HBG.out,aCc HB2.out.2.1 HNE.out.1 _,aCc HB2.out.2.2 HNE.out.2 _⟩,⟨Cf.aGx HH2.out hset⟩⟩
     ·rw[hz];have h1:=Cf.aWn HZ2.out (v:=.slice Ai x.length ci) (x:=x) (t:=j) (by have:=HIJ.out;have:=bHh.out.1;have:=HCAP.out.1;omega) bUo.out;rw[HIJ.out.2.2]at h1;exact Cf.aGx h1 hset
     ·rw[Array.getElem?_setIfInBounds_ne (by have:=HIJ.out;omega)];exact HT.out t h1 (by omega)
    case measure =>
     have:=HLT.out;(simp[intOf]);omega
def aA6.cnt (k:Nat) (a0:Int) (es:List S46) (q:Int) (v:Nat):Nat:=if(v:Int)=q then 1 else((aAq.f k a0 es (v:Int)).getD 0).toNat
abbrev aA6.ok0 (k:Nat) (a0:Int) (es:List S46) (q:Int):Prop:=(0<=a0/\a0<=6)/\∀ v,v<a0.toNat->(aAq.f k a0 es (v:Int)).isSome=true/\0<=(aAq.f k a0 es (v:Int)).getD 0/\(aAq.f k a0 es (v:Int)).getD 0<=24
abbrev aA6.ok1 (k:Nat) (a0:Int) (es:List S46) (q:Int):Prop:=∀ x∈Cf.aHw (aA6.cnt k a0 es q) a0.toNat,(aB1.f k a0 es x q).isSome=true
def aA6.f (k:Nat) (a0:Int) (es:List S46) (q:Int):Option (List (List Int)):=if aA6.ok0 k a0 es q/\aA6.ok1 k a0 es q/\0<(Cf.aHw (aA6.cnt k a0 es q) a0.toNat).length then some ((Cf.aHw (aA6.cnt k a0 es q) a0.toNat).filter λx => !aA6.pr k a0 es q x) else none
theorem aA6.bDo (k:Nat) {a0:Int} {es:List S46} {v:Int} (h:(aAq.f k a0 es v).isSome=true):aAq.f (k+1) a0 es v=aAq.f k a0 es v:=by
 obtain⟨b,hb⟩:=Option.isSome_iff_exists.1 h;rw[hb,aAq.mono _ _ _ k _ hb]
theorem aA6.aZw (k:Nat) {a0 q:Int} {es:List S46} {x:List Int} (h:(aB1.f k a0 es x q).isSome=true):aB1.f (k+1) a0 es x q=aB1.f k a0 es x q:=by
 obtain⟨b,hb⟩:=Option.isSome_iff_exists.1 h;rw[hb,aB1.mono _ _ _ _ k _ hb]
theorem aA6.aJe {c d:Nat->Nat}:∀ {n:Nat},(∀ v,v<n->c v=d v)->Cf.aHw c n=Cf.aHw d n
 | 0,_=>rfl
 | n+1,h=>by rw[Cf.aHw,Cf.aHw,aA6.aJe λv hv=>h v (by omega),h n (by omega)]
theorem aA6.mono:∀ a0 a1 a2 k,LeO (aA6.f k a0 a1 a2) (aA6.f (k+1) a0 a1 a2):=by
 intro a0 es q k r h;unfold aA6.f at h ⊢;(split at h);(case isFalse=>cases h);rename_i hc;(have e1:Cf.aHw (aA6.cnt (k+1) a0 es q) a0.toNat=Cf.aHw (aA6.cnt k a0 es q) a0.toNat:=aA6.aJe λv hv=>by unfold aA6.cnt;rw[aA6.bDo k (hc.1.2 v hv).1]);have h0:aA6.ok0 (k+1) a0 es q:=⟨hc.1.1,λv hv=>by rw[aA6.bDo k (hc.1.2 v hv).1];exact hc.1.2 v hv⟩;(have h1:aA6.ok1 (k+1) a0 es q:=by unfold aA6.ok1;rw[e1];exact λx hx=>by rw[aA6.aZw k (hc.2.1 x hx)];exact hc.2.1 x hx);rw[if_pos ⟨h0,h1,by rw[e1];exact hc.2.2⟩,<-h,e1];(congr 1);(refine List.filter_congr λx hx=>?_);unfold aA6.pr;rw[aA6.aZw k (hc.2.1 x hx)]
theorem aA6.calls (k:Nat) (aD:Int) (aH:Option Addr) (aG:Nat) (aC:List S46) (a1:Int) (r:List (List Int)) (w:World) (hr0_1:Kd.C k46 w aH aC.length aC) (hc0_1:aC.length<=aG) (h:aA6.f k aD aC a1=some r) :
  Calls Tryz.prog 25 #[.agg #[.int .i64 aD,.slice aH aC.length aG],.int .i64 a1] w λe w'=>∃ v0_:Value,e = .returned (v0_)/\Kd.S (Kd.slice 3 (Kd.int .i64)) 26 w' w.heap.size (λ_=>True) v0_ r/\Below w.heap.size w w':=by
 have aI5:=Tryz.underlying25;have HE:=zK_ hr0_1;have HC:=zK_ hc0_1;clear hr0_1 hc0_1;unfold aA6.f at h;(split at h);(case isFalse=>cases h);rename_i hc;obtain rfl:=zdI h;clear h;obtain⟨⟨⟨hn0,hn6⟩,hv⟩,hbn,hpos⟩:=hc;obtain⟨n,rfl⟩:=Int.eq_ofNat_of_zero_le hn0;unfold aA6.ok1 at hbn;rw[Int.toNat_natCast]at hv hbn hpos ⊢;have bUp:=zK_ hpos;clear hpos;have HV:=zK_ hv;have HBN:=zK_ hbn;have HN:=zK_ (show n<=6 from by omega);(have hcb:∀ u,u<n->aA6.cnt k (n:Int) aC a1 u<=24:=λu hu=>by unfold aA6.cnt;split;omega;have:=(hv u hu).2.2;omega);(have hln:∀ v,v<=n->(Cf.aHw (aA6.cnt k (n:Int) aC a1) v).length<=191102976:=λv hv=>Nat.le_trans (Cf.aVf (b:=24) λu hu=>hcb u (by omega)) (Nat.pow_le_pow_right (by omega) (show v<=6 by omega)));(have hrow:∀ v x,x∈Cf.aHw (aA6.cnt k (n:Int) aC a1) v->x.length=v:=λv x hx=>(Cf.aIi hx).1);have HCB:=zK_ hcb;have HLN:=zK_ hln;have bPv:=zK_ hrow;(have hmf:∀ (fn:Fn) (first cap:Array Value) (w:World),(Instr.makeFunc fn first cap).run Tryz.prog w = .ok (.func fn first cap) w:=λ_ _ _ _=>rfl);have hnb:(n:Int)<=6:=hn6;clear hn0 hn6 hv hbn hcb hln hrow;go_enter Tryz.func25,Tryz.ntmps25;(go_wp2_with (first|((with_reducible refine aAj (N:=2) rfl ?_);refine aAf ?hg (N:=2) ?hd (cs:=#[.int .i64 (n:Int),.slice aH aC.length aG]) (t:=25) ?hr ?_;(case hd=>rfl);(case hg=>rfl);(case hr=>exact aD9);intro bg hg w1 hbox hb;have BG1:=zK_ hbox;have HGG:=zK_ hg;have HB1:=zK_ hb;clear hg hbox hb)|((with_reducible refine aAj (N:=3) rfl ?_);refine aAf ?hg (N:=3) ?hd (cs:=#[.int .i64 a1]) (t:=3) ?hr ?_;(case hd=>rfl);(case hg=>rfl);(case hr=>exact aD9);intro bq hg w2 hbox hb;have BQ2:=zK_ hbox;have HQG:=zK_ hg;have BG2:=zK_ (aA4 BG1.out hb);have HB2:=zK_ (aA1 HB1.out hb);clear hg hbox hb)|((with_reducible refine aAj (N:=12) rfl ?_);refine Kd.bEf (w0:=w2) (Kd.slice 3 (Kd.int .i64)) w2.heap.size 26 ?hg (N:=12) ?hd (xs:=([[]]:List (List Int))) (inner:=[.slice none 0 0]) (ok:=λ_=>True) (λj k=>j=0) ?hr rfl ?hp (λi j k hi hj=>hi.trans hj.symm) (λ_ _ _=>trivial) trivial (Below.refl _ _) (Nat.le_refl _) (by simp) ?_;(case hd=>rfl);(case hg=>rfl);(case hr=>exact aD9);(case hp=>exact λj x hx=>match j,hx with|0,rfl=>Kd.aNt (Kd.aWt _ _ _ _ _)|_+1,h_=>absurd h_ (by simp));intro v12 w3 ho hb hg_ aF7;have HS3:=zK_ ho;have HB3:=zK_ hb;clear ho hb hg_ aF7)));have bRt:=zK_ (show bg<w2.heap.size/\bq<w2.heap.size from ⟨aCt BG2.out,aCt BQ2.out⟩);(go_loopw [5,6] (λv5 v6 wr=>∃ v:Nat,v6 = .int .i64 (v:Int)/\aA2 (v<=n)/\aA2 (Below w2.heap.size w2 wr)/\aA2 (Kd.S (Kd.slice 3 (Kd.int .i64)) 26 wr w2.heap.size (λ_=>True) v5 (Cf.aHw (aA6.cnt k (n:Int) aC a1) v))) (λ_ v _=>n-(intOf v).toNat));case atStart=>exact⟨0,rfl,⟨Nat.zero_le _⟩,HB3,HS3⟩
 case round =>
  clear HS3 HB3;obtain⟨v,rfl,HVN,HBr,HSr⟩:=hrel;have hz0:wr.cell? ⟨bg,0,none⟩=some (.int .i64 (n:Int)):=(aAc (aA4 BG2.out HBr.out) 0).trans rfl;have hz1:wr.cell? ⟨bg,1,none⟩=some (.slice aH aC.length aG):=(aAc (aA4 BG2.out HBr.out) 1).trans rfl;(have hvb:(v:Int)<=6:=by have:=HVN.out;omega);by_cases hvn:v<n;rotate_left
  ·have c0_:decide ((v:Int)<(n:Int))=false:=zdN (by omega);have c1_:decide (v<n)=false:=zdN hvn;(have hv:v=n:=by have:=HVN.out;omega);subst hv;clear hvn;obtain⟨g,cap,eg,_⟩:=Kd.bA6 HSr.out bUp.out;subst eg;obtain⟨f,cur,hbg,_,_,hncap,hcm,hcs,hc,hH⟩:=Cf.bA5 HSr.out;have hdel:=aA6.del k (v:Int) a1 aC aH aG bg bq g cap _ f cur _ w2 wr (Kd.aC4 HE.out HB2.out) HC.out ⟨HBr.out,aA4 BG2.out HBr.out,aA4 BQ2.out HBr.out,hc,hH⟩ (Nat.le_trans (HLN.out v (Nat.le_refl _)) (by omega)) hncap HBN.out hcs hcm hbg (λk_ h=>h.2) ⟨by have:=bRt.out;omega,by have:=bRt.out;omega⟩;have bUq:=zK_ hdel;clear hdel hH hc hcs hcm hncap hbg;(go_wp2_with fail);refine bUq.out.mono ?_;rintro e w9 ⟨v9,rfl,hS,hb⟩;obtain⟨A9,c9,e9⟩:=Kd.aGa hS;subst e9;have HS9:=zK_ hS;have HB9:=zK_ hb;clear hS hb hz0 hz1;go_wp2;go_ret;exact⟨_,rfl,Kd.aE4 (Kd.aJg HS9.out HB2.out.size) (λ_ _=>trivial),aA1 HB2.out HB9.out⟩
  have c0_:decide ((v:Int)<(n:Int))=true:=zdY (by omega);have c1_:decide (v<n)=true:=zdY hvn;obtain⟨L,hL⟩:∃ L,Cf.aHw (aA6.cnt k (n:Int) aC a1) v=L:=⟨_,rfl⟩;obtain⟨A5,c5,e5⟩:=Kd.aGa HSr.out;subst e5;have hS:=HSr.out;rw[hL]at hS;have HLn:=zK_ (show L.length<=191102976 from by rw[<-hL];exact HLN.out v (by omega));have HLR:=zK_ (show ∀ x∈L,x.length=v from λx hx=>bPv.out v x (by rw[hL];exact hx));have HS:=zK_ hS;have HLL:=zK_ hL;rw[hL];clear hS HSr;obtain⟨hm0,hm1,hm2⟩:=HV.out v hvn;obtain⟨m,hm⟩:=Option.isSome_iff_exists.1 hm0;rw[hm]at hm1 hm2;simp only[Option.getD_some]at hm1 hm2;have HM:=zK_ hm;(have hcn:aA6.cnt k (n:Int) aC a1 v=if(v:Int)=a1 then 1 else m.toNat:=by unfold aA6.cnt;rw[hm];rfl);obtain⟨m1,em⟩:∃ x:Int,wrap64 (m-1)=x:=⟨_,rfl⟩;have emw:IntKind.i64.wrap (m-1)=m1:=(aFm _).trans em;have HM1:=zK_ (show m1=m-1/\0<=m/\m<=24 from ⟨by rw[<-em];unfold wrap64;omega,hm1,hm2⟩);have bI7:=zK_ hvn;clear hm hm0 hm1 hm2 hL hvn;(go_wp2_with fail);refine(aAq.calls k (n:Int) _ _ aC (v:Int) m _ (Kd.aC4 (Kd.aC4 HE.out HB2.out) HBr.out) HC.out HM.out).mono ?_;rintro e w5 ⟨rfl,hb⟩;have HB5:=zK_ (aA1 HBr.out hb);have HS5:=zK_ (Kd.aE4 (Kd.aEp (Kd.aD8 HS.out hb)) (ok':=λk_=>k_<w5.heap.size) λk_ hk=>hk.2.2.1);clear hb hz0 hz1 HS HBr;have hq0:w5.cell? ⟨bq,0,none⟩=some (.int .i64 a1):=(aAc (aA4 BQ2.out HB5.out) 0).trans rfl;by_cases hvq:(v:Int)=a1
  ·have c4_:((v:Int)==a1)=true:=beq_iff_eq.2 hvq;have bKh:aA6.cnt k (n:Int) aC a1 v=aA6.cnt k (n:Int) aC a1 v/\aA6.cnt k (n:Int) aC a1 v=1:=⟨rfl,by rw[hcn,if_pos hvq]⟩;have HCN:=zK_ (show aA6.cnt k (n:Int) aC a1 v=1/\(1:Nat)<=24 from ⟨bKh.2,by omega⟩);clear hcn bKh hvq;(try go_wp2);(go_loopw [8,28] (λv8 v28 wr=>∃ i:Nat,v28 = .int .i64 (i:Int)/\aA2 (i<=L.length/\w5.heap.size<=wr.heap.size)/\aA2 (Below w2.heap.size w2 wr)/\aA2 (Kd.S (Kd.slice 3 (Kd.int .i64)) 26 wr w2.heap.size (λk_=>k_<w5.heap.size) (.slice A5 L.length c5) L)/\aA2 (Kd.S (Kd.slice 3 (Kd.int .i64)) 26 wr w2.heap.size (λk_=>w5.heap.size<=k_) v8 (Cf.aSv 1 L i))) (λ_ v _=>L.length-(intOf v).toNat));case atStart=>exact⟨0,rfl,⟨Nat.zero_le _,Nat.le_refl _⟩,HB5,HS5,⟨Kd.aLo _ _ _ _ _⟩⟩
   case round =>
    clear HS5 hq0;obtain⟨i,rfl,HI,HBr,HLr,HSn⟩:=hrel;by_cases hlt:i<L.length;rotate_left
    ·have c2_:decide ((i:Int)<(L.length:Int))=false:=zdN (by omega);have c3_:decide (i<L.length)=false:=zdN hlt;(have hi:i=L.length:=by have:=HI.out;omega);subst hi;clear hlt;go_wp2;go_roundw
     case rel =>
      refine⟨v+1,by go_num,⟨bI7.out⟩,HBr,⟨?_⟩⟩;have h1:=Cf.aUt (aA6.cnt k (n:Int) aC a1) v;rw[HLL.out,HCN.out.1]at h1;rw[<-h1];exact Kd.aE4 HSn.out λ_ _=>trivial
     case measure =>
      have:=bI7.out;(simp[intOf]);omega
    have c2_:decide ((i:Int)<(L.length:Int))=true:=zdY (by omega);have c3_:decide (i<L.length)=true:=zdY hlt;obtain⟨x,hxi⟩:∃ x,L[i]? = some x:=⟨_,zdH hlt⟩;(have hx:aBt L (i:Int)=x:=by unfold aBt;rw[Int.toNat_natCast,zdG,hxi];rfl);(have p1:(0:Int)<=(i:Int):=by omega);(have p2:(i:Int)<(L.length:Int):=by omega);obtain⟨gL,_,_,eg,_,_,_⟩:=aH8 (Kd.aEm HLr.out).2.2 (i:Int) p1 p2;subst eg;obtain⟨cc,_,hM,hcell⟩:=Kd.aPr HLr.out ([]:List Int) (i:Int) p1 p2;obtain⟨vx,hvx,hRx⟩:=hM;subst hvx;replace hcell:=hcell 0 vx rfl;rw[show (L.getD ((i:Int)).toNat [])=x from hx]at hRx;(replace hRx:=Kd.aBs hRx (ok':=λk_=>k_<w5.heap.size) λk_ hk=>hk.1);obtain⟨Ai,ci,ei⟩:=Kd.aBr hRx;subst ei;rw[Int.toNat_natCast,show i*(Kd.slice 3 (Kd.int .i64)).sz+0=i from Nat.mul_one i]at hcell;have HRi:=zK_ hRx;clear hRx;(have hib:(i:Int)<=191102976:=by have:=HLn.out;omega);have HLT:=zK_ hlt;have HXI:=zK_ hxi;have HXL:=zK_ (show x.length=v from HLR.out x (List.mem_of_getElem? hxi));(have hxl:(x.length:Int)<=6:=by have:=HXL.out;have:=bI7.out;have:=HN.out;omega);have CP:=zK_ (show aCo.f x=some x from by unfold aCo.f;rw[if_pos (by simp only[List.length_nil];omega)];rfl);clear hxi hlt hx;(try go_wp2);(go_loopw [8,11] (λv8 v11 wi=>∃ j:Nat,v11 = .int .i64 (j:Int)/\aA2 (j<=1/\w5.heap.size<=wi.heap.size)/\aA2 (Below w2.heap.size w2 wi)/\aA2 (Kd.S (Kd.slice 3 (Kd.int .i64)) 26 wi w2.heap.size (λk_=>k_<w5.heap.size) (.slice (some gL) L.length c5) L)/\aA2 (Kd.S (Kd.slice 3 (Kd.int .i64)) 26 wi w2.heap.size (λk_=>w5.heap.size<=k_) v8 (Cf.aSv 1 L i++Cf.aNh j x))/\aA2 (Kd.R (Kd.int .i64) 3 wi w2.heap.size (λk_=>k_<w5.heap.size) (.slice Ai x.length ci) x)) (λ_ v _=>1-(intOf v).toNat));case atStart=>exact⟨0,rfl,⟨Nat.zero_le _,HI.out.2⟩,HBr,HLr,⟨by rw[Cf.aRf,List.append_nil];exact HSn.out⟩,HRi⟩
    case round =>
     obtain⟨j,rfl,HJ,HBi,HLi,HSi,HRj⟩:=hrel;(have hjb:(j:Int)<=24:=by have:=HJ.out;have:=HCN.out;omega);by_cases hj:j<1
     ·(obtain rfl:j=0:=by omega);have HJN:=zK_ hj;clear hj;have HLA:=zK_ (show (Cf.aSv 1 L i++Cf.aNh 0 x).length<=5000000000 from by rw[List.length_append,Cf.aPj];have a1_:=Cf.aUs 1 L i;have a2_:=HCN.out;have a3_:=HJ.out;have a4_:=Nat.mul_le_mul HLn.out (show 1<=24 by omega);omega);(go_wp2_with (first|((with_reducible refine aA5 (f:=43) rfl ?_);refine aB8 (some 39) rfl rfl Tryz.func43 (by kernel_rfl) rfl #[.slice Ai x.length ci] rfl (by(try simp only[List.map_toArray,List.map_cons,List.map_nil]);first|done|rfl) ?_;refine(aCo.calls _ _ x x _ (Kd.aAl HRj.out).2.2 (Kd.aAl HRj.out).2.1 CP.out).mono ?_;rintro e wA ⟨vA,rfl,hoA,hbA⟩;refine⟨_,rfl,?_⟩;have HOA:=zK_ hoA;have HBA:=zK_ hbA;clear hoA hbA)|((with_reducible refine aBe (b:=.append) (xs:=#[.tmp 39,.tmp 41]) rfl ?_);at_builtin;refine Kd.aD5 (Kd.int .i64) (w0:=wr) wr.heap.size rfl (.tmp 39) (.tmp 41) 26 3 (.int .i64 0) 8 rfl Tryz.underlying26 info3 rfl (by decide) (by omega) vA x (0:Int) [.int .i64 (0:Int)] (λ_=>True) (λ_=>False) rfl rfl rfl (λ_ hk=>hk.elim) (λ_ _=>trivial) HOA.out HBA.out (aAa HBA.out) (by have:=hxl;omega) ?_;intro vC wC ho hb hg hat;obtain⟨Ad,cd,ed⟩:=Kd.aBr ho;subst ed;rw[show (x++[(0:Int)]).length=x.length+1 from List.length_append]at ho;have HD:=zK_ (Kd.aBs (Kd.aFg ho) (ok':=λk_=>wr.heap.size<=k_) λk_ hk=>hk.2.1);have HBC:=zK_ hb;clear ho hb hg hat)|((with_reducible refine aBe (b:=.append) (xs:=#[.tmp 37,.tmp 43]) rfl ?_);at_builtin;refine Kd.aHg (Kd.slice 3 (Kd.int .i64)) (w0:=w2) w2.heap.size rfl (.tmp 37) (.tmp 43) 30 26 (.slice none 0 0) 24 rfl Tryz.underlying30 info26 rfl (by decide) (by omega) u8 (Cf.aSv 1 L i++Cf.aNh 0 x) (x++[(0:Int)]) [.slice Ad (x.length+1) cd] (λk_=>w5.heap.size<=k_) (λk_=>wr.heap.size<=k_) rfl rfl (Kd.aNt (Kd.aCn HD.out (aAa HBi.out))) (λk_ hk=>⟨by have:=HJ.out;omega,λe=>by have:=Kd.bEe HSi.out k_ e.symm;omega⟩) (λk_ hk=>by have:=HJ.out;have:=HBC.out.size;omega) (Kd.aE4 (Kd.aD8 (Kd.aEp HSi.out) HBC.out) λk_ hk=>⟨hk.1,λh=>by have:=hk.2.2.1;omega⟩) (aA1 HBi.out HBC.out) (aAa (aA1 HBi.out HBC.out)) (by have:=HLA.out;omega) ?_;intro vE wE ho hb hg hat;have HOE:=zK_ ho;have HBE:=zK_ hb;have HLE:=zK_ (Kd.aNr (Kd.aD8 (Kd.aEp HLi.out) HBC.out) hg λk_ hk e=>by have:=HSi.out.choose_spec.1 k_ e.symm;have:=hk.1;omega);have HZE:=zK_ hg.size;have HRE:=zK_ (Kd.aHh (Kd.aBn HRj.out HBC.out) λk_ hk hlt=>hg.block k_ hlt λe=>by have:=HSi.out.choose_spec.1 k_ e.symm;omega);clear ho hb hg hat)));go_roundw
      case rel =>
       refine⟨0+1,by go_num,⟨by have:=HJN.out;omega,by have:=HBC.out.size;have:=HZE.out;have:=HJ.out;omega⟩,HBE,⟨Kd.aE4 HLE.out λk_ hk=>hk.1⟩,⟨?_⟩,HRE⟩;rw[Cf.aRg,<-List.append_assoc];exact HOE.out
      case measure =>
       have:=HJN.out;first|(simp[intOf];done)|(simp[intOf];omega)
     have hj2:=HJ.out;(have hjn:j=1:=by have:=HJ.out;omega);subst hjn;clear hj;go_wp2;go_roundw
     case rel =>
      refine⟨i+1,by go_num,⟨by have:=HLT.out;omega,HJ.out.2⟩,HBi,HLi,⟨?_⟩⟩;rw[Cf.aQr _ HXI.out];exact HSi.out
     case measure =>
      have:=HLT.out;(simp[intOf]);omega
  have c4_:((v:Int)==a1)=false:=beq_eq_false_iff_ne.2 hvq;have bKh:aA6.cnt k (n:Int) aC a1 v=aA6.cnt k (n:Int) aC a1 v/\((aA6.cnt k (n:Int) aC a1 v:Nat):Int)=m1+1/\m1<=23:=⟨rfl,by rw[hcn,if_neg hvq];have:=HM1.out;omega,by have:=HM1.out;omega⟩;have bPx:=zK_ bKh;obtain⟨cn,bQx⟩:∃ cn,aA6.cnt k (n:Int) aC a1 v=cn:=⟨_,rfl⟩;have HCN:=zK_ (show aA6.cnt k (n:Int) aC a1 v=cn/\cn<=24/\(cn:Int)=m1+1 from ⟨bQx,by have:=bPx.out.2;omega,by have:=bPx.out.2;omega⟩);clear hcn bKh hvq bQx bPx;(try go_wp2);(go_loopw [8,28] (λv8 v28 wr=>∃ i:Nat,v28 = .int .i64 (i:Int)/\aA2 (i<=L.length/\w5.heap.size<=wr.heap.size)/\aA2 (Below w2.heap.size w2 wr)/\aA2 (Kd.S (Kd.slice 3 (Kd.int .i64)) 26 wr w2.heap.size (λk_=>k_<w5.heap.size) (.slice A5 L.length c5) L)/\aA2 (Kd.S (Kd.slice 3 (Kd.int .i64)) 26 wr w2.heap.size (λk_=>w5.heap.size<=k_) v8 (Cf.aSv cn L i))) (λ_ v _=>L.length-(intOf v).toNat));case atStart=>exact⟨0,rfl,⟨Nat.zero_le _,Nat.le_refl _⟩,HB5,HS5,⟨Kd.aLo _ _ _ _ _⟩⟩
  case round =>
   clear HS5 hq0;obtain⟨i,rfl,HI,HBr,HLr,HSn⟩:=hrel;by_cases hlt:i<L.length;rotate_left
   ·have c2_:decide ((i:Int)<(L.length:Int))=false:=zdN (by omega);have c3_:decide (i<L.length)=false:=zdN hlt;(have hi:i=L.length:=by have:=HI.out;omega);subst hi;clear hlt;go_wp2;go_roundw
    case rel =>
     refine⟨v+1,by go_num,⟨bI7.out⟩,HBr,⟨?_⟩⟩;have h1:=Cf.aUt (aA6.cnt k (n:Int) aC a1) v;rw[HLL.out,HCN.out.1]at h1;rw[<-h1];exact Kd.aE4 HSn.out λ_ _=>trivial
    case measure =>
     have:=bI7.out;(simp[intOf]);omega
   have c2_:decide ((i:Int)<(L.length:Int))=true:=zdY (by omega);have c3_:decide (i<L.length)=true:=zdY hlt;obtain⟨x,hxi⟩:∃ x,L[i]? = some x:=⟨_,zdH hlt⟩;(have hx:aBt L (i:Int)=x:=by unfold aBt;rw[Int.toNat_natCast,zdG,hxi];rfl);(have p1:(0:Int)<=(i:Int):=by omega);(have p2:(i:Int)<(L.length:Int):=by omega);obtain⟨gL,_,_,eg,_,_,_⟩:=aH8 (Kd.aEm HLr.out).2.2 (i:Int) p1 p2;subst eg;obtain⟨cc,_,hM,hcell⟩:=Kd.aPr HLr.out ([]:List Int) (i:Int) p1 p2;obtain⟨vx,hvx,hRx⟩:=hM;subst hvx;replace hcell:=hcell 0 vx rfl;rw[show (L.getD ((i:Int)).toNat [])=x from hx]at hRx;(replace hRx:=Kd.aBs hRx (ok':=λk_=>k_<w5.heap.size) λk_ hk=>hk.1);obtain⟨Ai,ci,ei⟩:=Kd.aBr hRx;subst ei;rw[Int.toNat_natCast,show i*(Kd.slice 3 (Kd.int .i64)).sz+0=i from Nat.mul_one i]at hcell;have HRi:=zK_ hRx;clear hRx;(have hib:(i:Int)<=191102976:=by have:=HLn.out;omega);have HLT:=zK_ hlt;have HXI:=zK_ hxi;have HXL:=zK_ (show x.length=v from HLR.out x (List.mem_of_getElem? hxi));(have hxl:(x.length:Int)<=6:=by have:=HXL.out;have:=bI7.out;have:=HN.out;omega);have CP:=zK_ (show aCo.f x=some x from by unfold aCo.f;rw[if_pos (by simp only[List.length_nil];omega)];rfl);clear hxi hlt hx;(try go_wp2);(go_loopw [8,11] (λv8 v11 wi=>∃ j:Nat,v11 = .int .i64 (j:Int)/\aA2 (j<=cn/\w5.heap.size<=wi.heap.size)/\aA2 (Below w2.heap.size w2 wi)/\aA2 (Kd.S (Kd.slice 3 (Kd.int .i64)) 26 wi w2.heap.size (λk_=>k_<w5.heap.size) (.slice (some gL) L.length c5) L)/\aA2 (Kd.S (Kd.slice 3 (Kd.int .i64)) 26 wi w2.heap.size (λk_=>w5.heap.size<=k_) v8 (Cf.aSv cn L i++Cf.aNh j x))/\aA2 (Kd.R (Kd.int .i64) 3 wi w2.heap.size (λk_=>k_<w5.heap.size) (.slice Ai x.length ci) x)) (λ_ v _=>cn-(intOf v).toNat));case atStart=>exact⟨0,rfl,⟨Nat.zero_le _,HI.out.2⟩,HBr,HLr,⟨by rw[Cf.aRf,List.append_nil];exact HSn.out⟩,HRi⟩
   case round =>
    obtain⟨j,rfl,HJ,HBi,HLi,HSi,HRj⟩:=hrel;(have hjb:(j:Int)<=24:=by have:=HJ.out;have:=HCN.out;omega);by_cases hj:j<cn
    ·have d0:decide ((j:Int)<=m1)=true:=zdY (by have:=HCN.out;omega);have HJN:=zK_ hj;clear hj;have HLA:=zK_ (show (Cf.aSv cn L i++Cf.aNh j x).length<=5000000000 from by rw[List.length_append,Cf.aPj];have a1_:=Cf.aUs cn L i;have a2_:=HCN.out;have a3_:=HJ.out;have a4_:=Nat.mul_le_mul HLn.out (show cn<=24 by omega);omega);(go_wp2_with (first|((with_reducible refine aA5 (f:=43) rfl ?_);refine aB8 (some 39) rfl rfl Tryz.func43 (by kernel_rfl) rfl #[.slice Ai x.length ci] rfl (by(try simp only[List.map_toArray,List.map_cons,List.map_nil]);first|done|rfl) ?_;refine(aCo.calls _ _ x x _ (Kd.aAl HRj.out).2.2 (Kd.aAl HRj.out).2.1 CP.out).mono ?_;rintro e wA ⟨vA,rfl,hoA,hbA⟩;refine⟨_,rfl,?_⟩;have HOA:=zK_ hoA;have HBA:=zK_ hbA;clear hoA hbA)|((with_reducible refine aBe (b:=.append) (xs:=#[.tmp 39,.tmp 41]) rfl ?_);at_builtin;refine Kd.aD5 (Kd.int .i64) (w0:=wr) wr.heap.size rfl (.tmp 39) (.tmp 41) 26 3 (.int .i64 0) 8 rfl Tryz.underlying26 info3 rfl (by decide) (by omega) vA x (j:Int) [.int .i64 (j:Int)] (λ_=>True) (λ_=>False) rfl rfl rfl (λ_ hk=>hk.elim) (λ_ _=>trivial) HOA.out HBA.out (aAa HBA.out) (by have:=hxl;omega) ?_;intro vC wC ho hb hg hat;obtain⟨Ad,cd,ed⟩:=Kd.aBr ho;subst ed;rw[show (x++[(j:Int)]).length=x.length+1 from List.length_append]at ho;have HD:=zK_ (Kd.aBs (Kd.aFg ho) (ok':=λk_=>wr.heap.size<=k_) λk_ hk=>hk.2.1);have HBC:=zK_ hb;clear ho hb hg hat)|((with_reducible refine aBe (b:=.append) (xs:=#[.tmp 37,.tmp 43]) rfl ?_);at_builtin;refine Kd.aHg (Kd.slice 3 (Kd.int .i64)) (w0:=w2) w2.heap.size rfl (.tmp 37) (.tmp 43) 30 26 (.slice none 0 0) 24 rfl Tryz.underlying30 info26 rfl (by decide) (by omega) u8 (Cf.aSv cn L i++Cf.aNh j x) (x++[(j:Int)]) [.slice Ad (x.length+1) cd] (λk_=>w5.heap.size<=k_) (λk_=>wr.heap.size<=k_) rfl rfl (Kd.aNt (Kd.aCn HD.out (aAa HBi.out))) (λk_ hk=>⟨by have:=HJ.out;omega,λe=>by have:=Kd.bEe HSi.out k_ e.symm;omega⟩) (λk_ hk=>by have:=HJ.out;have:=HBC.out.size;omega) (Kd.aE4 (Kd.aD8 (Kd.aEp HSi.out) HBC.out) λk_ hk=>⟨hk.1,λh=>by have:=hk.2.2.1;omega⟩) (aA1 HBi.out HBC.out) (aAa (aA1 HBi.out HBC.out)) (by have:=HLA.out;omega) ?_;intro vE wE ho hb hg hat;have HOE:=zK_ ho;have HBE:=zK_ hb;have HLE:=zK_ (Kd.aNr (Kd.aD8 (Kd.aEp HLi.out) HBC.out) hg λk_ hk e=>by have:=HSi.out.choose_spec.1 k_ e.symm;have:=hk.1;omega);have HZE:=zK_ hg.size;have HRE:=zK_ (Kd.aHh (Kd.aBn HRj.out HBC.out) λk_ hk hlt=>hg.block k_ hlt λe=>by have:=HSi.out.choose_spec.1 k_ e.symm;omega);clear ho hb hg hat)));go_roundw
     case rel =>
      refine⟨j+1,by go_num,⟨by have:=HJN.out;omega,by have:=HBC.out.size;have:=HZE.out;have:=HJ.out;omega⟩,HBE,⟨Kd.aE4 HLE.out λk_ hk=>hk.1⟩,⟨?_⟩,HRE⟩;rw[Cf.aRg,<-List.append_assoc];exact HOE.out
     case measure =>
      have:=HJN.out;first|(simp[intOf];done)|(simp[intOf];omega)
    have d0:decide ((j:Int)<=m1)=false:=zdN (by have:=HCN.out;omega);(have hjn:j=cn:=by have:=HJ.out;omega);subst hjn;clear hj;go_wp2;go_roundw
    case rel =>
     refine⟨i+1,by go_num,⟨by have:=HLT.out;omega,HJ.out.2⟩,HBi,HLi,⟨?_⟩⟩;rw[Cf.aQr _ HXI.out];exact HSi.out
    case measure =>
     have:=HLT.out;(simp[intOf]);omega
def aC0.l0:Nat->List Int->List Int->Int->Int->Option (List Int)
 | 0,_,_,_,_=>none
 | k+1,x1,x5,iR,eZ=>if eZ<iR then(if 0<=eZ then(if eZ<(x5.length:Int) then(if eZ<(x1.length:Int) then(aC0.l0 k x1 (x5.set (eZ:Int).toNat (wrap64 ((rd x5 eZ)+(rd x1 eZ)))) iR (wrap64 (eZ+1))) else(none)) else(none)) else(none)) else(some x5)
def aC0.f (k:Nat) (l0:List Int) (l1:List Int):Option (List Int):=(aCo.f l0).bind λbO=>(aC0.l0 k l1 bO (bO.length:Int) 0)
theorem aC0.aBp:∀ k,(∀ y0 y1 y2 y3,LeO (aC0.l0 k y0 y1 y2 y3) (aC0.l0 (k+1) y0 y1 y2 y3))
 | 0=>λ_ _ _ _ r h=>by simp[aC0.l0]at h
 | k+1=>by
  have ih0:=aC0.aBp k
  ·intro y0 y1 y2 y3
   unfold aC0.l0
   exact zm0
theorem aC0.mono:∀ a0 a1 k,LeO (aC0.f k a0 a1) (aC0.f (k+1) a0 a1):=by
 intro a0 a1 k;have ih0:=aC0.aBp k;unfold aC0.f;exact zm0
def aC0.T5:Bool×List (List Nat×List Nat):=(true,[([],[]),([],[]),([0,1],[0,1]),([2],[2]),([],[]),([],[]),([4,5],[4,5]),([6],[6]),([3,7],[3,7]),([0,1,0,1,2,3,4,5,6,7,8],[0,1]),([9,8,0,1,2,3,4,5,6,7,8],[8,9])])
def aC0.B5:List Nat:=[0,0,3,7,0,0,48,112,255,511,1023]
theorem aC0.bOe:aIo .any (opsOf Tryz.f26 5)=aC0.T5:=by kernel_rfl
theorem aC0.bGz:aFn aC0.T5.2 aC0.B5=true:=by kernel_rfl
theorem aC0.calls (k:Nat) (A0:Option Addr) (c0:Nat) (l0:List Int) (A1:Option Addr) (c1:Nat) (l1:List Int) (r:List Int) (w:World) (hr0:Kd.C (Kd.int .i64) w A0 l0.length l0) (hc0:l0.length<=c0) (hr1:Kd.C (Kd.int .i64) w A1 l1.length l1) (hc1:l1.length<=c1) (h:aC0.f k l0 l1=some r) :
  Calls Tryz.prog 26 #[.slice A0 l0.length c0,.slice A1 l1.length c1] w λe w'=>∃ v0_:Value,e = .returned (v0_)/\Kd.R (Kd.int .i64) 3 w' w.heap.size (λ_=>True) v0_ r/\Below w.heap.size w w':=by
 have HR0:=zK_ hr0;have HC0:=zK_ hc0;clear hr0 hc0;have HR1:=zK_ hr1;have HC1:=zK_ hc1;clear hr1 hc1;have HB:=zK_ (Below.refl w.heap.size w);have H:((aCo.f l0).bind λbO=>(aC0.l0 k l1 bO (bO.length:Int) 0))=some r:=h;clear h;obtain⟨bO,A30,H⟩:=zO_ H;(try dsimp only at H);have A3:=zK_ A30;clear A30;have H':=zK_ H;clear H;go_enter Tryz.func26,Tryz.ntmps26;(go_wp2_with (first|((with_reducible refine aA5 (f:=43) rfl ?_);refine aB8 (some 8) rfl rfl Tryz.func43 (by kernel_rfl) rfl #[.slice A0 l0.length c0] rfl zz3 ?_;(with_reducible refine(aCo.calls _ _ l0 bO _ ?side1 ?side2 A3.out).mono ?_);(case side1=>exact bAu);(case side2=>exact HC0.out);rintro e w4 ⟨bN8,rfl,ho0,hb⟩;refine⟨_,rfl,?_⟩;have n_:=zA2 (Kd.aCn ho0 (aAa zz2)) (aA1 zz2 hb);clear HB;obtain⟨qB,HB⟩:=n_;clear ho0 hb;obtain⟨Ao5,co5,Q1⟩:=Kd.aBr qB.out;subst Q1)));(go_loopg [11] k (λkq v11 w'=>∃ (iP:List Int) (aM:Int),v11 = .int .i64 aM/\aA2 (aC0.l0 kq l1 iP (bO.length:Int) aM=some r)/\aA2 (kq<=k)/\aA2 (Kd.R (Kd.int .i64) 3 w' w.heap.size (λ_=>True) (.slice Ao5 bO.length co5) iP)/\aA2 (Below w.heap.size w w')));case atStart=>exact⟨(bO),(0),zz6,H',⟨Nat.le_refl _⟩,⟨aXb⟩,⟨zz2⟩⟩
 case round =>
  clear H';(try clear c1);(try clear c2);(try clear p2);(try clear c4);obtain⟨iP,aM,rfl,HA,HK1,dU,HB⟩:=hrel;have fU:=(Kd.aAl dU.out).1;rw[fU]at dU;(try simp only[fU])
  cases gk with
  | zero=>exact absurd HA.out (by simp[aC0.l0])
  | succ k1 =>
   have H:=HA.out;clear HA;simp only[aC0.l0]at H;by_cases c6:aM<(bO.length:Int);rotate_left
   ·rw[if_neg c6]at H;have iO:=zdN c6;(try(have n7:=iO;first|rw[fU]at n7|rw[<-fU]at n7));clear c6;obtain rfl:=zdI H;go_wp2;go_ret;exact⟨_,zz7,by(with_reducible repeat(first|apply Kd.aB6|apply Kd.aB5|apply Kd.aBd));exact dU.out,zz2⟩
   rw[if_pos c6]at H;have iO:=zdY c6;(try(have n7:=iO;first|rw[fU]at n7|rw[<-fU]at n7));clear c6;by_cases c7:0<=aM;rotate_left
   ·rw[if_neg c7]at H;exact absurd H (by simp)
   rw[if_pos c7]at H;have gT:=zdY c7;clear c7;by_cases c8:aM<(iP.length:Int);rotate_left
   ·rw[if_neg c8]at H;exact absurd H (by simp)
   rw[if_pos c8]at H;have gV:=zdY c8;(try(have uM:=gV;first|rw[fU]at uM|rw[<-fU]at uM));clear c8;by_cases c9:aM<(l1.length:Int);rotate_left
   ·rw[if_neg c9]at H;exact absurd H (by simp)
   rw[if_pos c9]at H;have iN:=zdY c9;(try(have uL:=iN;first|rw[fU]at uL|rw[<-fU]at uL));clear c9;obtain⟨u6,hy_⟩:∃ y_:List Int,y_=(iP.set (aM:Int).toNat (wrap64 ((rd iP aM)+(rd l1 aM)))):=⟨_,rfl⟩;(replace H:(aC0.l0 k1 l1 u6 (bO.length:Int) (wrap64 (aM+1)))=some r:=zzY);have uV:=zK_ hy_;clear hy_;have H':=zK_ H;clear H;(try go_wp2);have n_:=zA2 (Kd.aBd dU.out) (aAx HB.out);clear dU HB;obtain⟨dU,HB⟩:=n_;have aJ5:0<=(aM:Int):=zdT zz4;have aJ3:aM<(iP.length:Int):=zdT zz4;obtain⟨iM,aRj,cT⟩:=Kd.aCl (Kd.aAl dU.out).2.2 aM aJ5 aJ3;cases aRj;replace aJ5:=eq_true aJ5;replace aJ3:=eq_true aJ3;have aL8:0<=(aM:Int):=zdT zz4;have aL7:aM<(l1.length:Int):=zdT zz4;obtain⟨eJ,aWp,cD⟩:=Kd.aCl HR1.out aM aL8 aL7;have hw105_0:=cD;cases aWp;replace cD:=(HB.out.cell (World.block_lt_of_cell? w _ cD)).trans cD;replace aL8:=eq_true aL8;replace aL7:=eq_true aL7;have p10:0<=(aM:Int):=zdT zz4;have q10:(aM:Int)<((iP.length:Int):Int):=zdT zz4;obtain⟨bI4,bLn,qE,wN,bP0,bUc,bMi⟩:=Kd.aHj dU.out (by omega);(first|cases qE|(injection qE with ea_ en_ ec_;(first|subst ea_|(injection ea_ with ea_;subst ea_));subst ec_;clear en_));have AM:=zK_ wN;have F2:=zK_ bMi;clear wN bP0 bMi;(first|simp only[add_plain]at cT|skip);obtain⟨sU,wL⟩:=Kd.aEf 0 dU.out (aM:Int) p10 q10;replace p10:=eq_true p10;replace q10:=eq_true q10;have AJ:=Kd.bM5 dU.out (aM:Int) (wrap64 ((rd iP aM)+(rd l1 aM)));rw[<-uV.out]at AJ;have FZ:=zK_ AJ;clear AJ;refine aFp (n:=11) (S:=λw'=>w'.cell? ⟨bI4,(aM).toNat,none⟩=some (.int .i64 (rd iP aM))/\w'.cell? (eJ.add (aM).toNat)=some (.int .i64 (rd l1 aM))) (ds:=[10]) (zM 11 0) (by kernel_rfl) rfl rfl ⟨cT,((HB.out.cell (World.block_lt_of_cell? w _ hw105_0)).trans hw105_0)⟩ (λhHeld=>?_);refine aE1 aC0.bOe aC0.bGz (λHT_ HW_=>?_);generalize wr.drew=w11 at dU HB F2 FZ wL cT cD sU hHeld ⊢;refine zQ 0 14 (zM 11 1) ?_
   refine zQ 1 15 (zM 11 3) ?_
   refine zQ 2 16 (zM 11 7) ?_
   refine zQ 4 18 (zM 11 23) ?_
   refine zQ 5 19 (zM 11 55) ?_
   refine zQ 6 20 (zM 11 119) ?_
   refine aE6 (i:=3) (N:=some 17) (v:=?_) (a':=?_) (zM 11 127) rfl rfl (aC7 HT_.out HW_.out (by kernel_rfl)) (λ_ _ _ h=>h) (Or.inl ⟨by rfl,?_⟩) hHeld ?_ ?_;rotate_left
   ·rintro w' ⟨s0,s1⟩;exact zzT
   rotate_left
   ·exact zzS
   refine aE6 (i:=7) (N:=some 21) (v:=?_) (a':=?_) (zM 11 255) rfl rfl (aC7 HT_.out HW_.out (by kernel_rfl)) (λ_ _ _ h=>h) (Or.inl ⟨by rfl,?_⟩) hHeld ?_ ?_;rotate_left
   ·rintro w' ⟨s0,s1⟩;exact zzT
   rotate_left
   ·exact zzS
   refine zQ 8 22 (zM 11 511) ?_
   refine zQ 9 23 (zM 11 1023) ?_
   refine bJt (i:=10) (N:=none) (zM 11 2047) rfl rfl (aE3 HT_.out (by kernel_rfl)) (by decide) (λK hK=>?_);refine aW1 (w1:=?_) (by rfl) rfl ?_ ?_;rotate_left
   ·go_simp;rfl
   refine hK.out _ _ ?_;clear hK K;refine aH4 (aF8 HT_.out (by kernel_rfl)) ?_;(try go_wp2);(try simp only[<-fU]);go_roundg k1;(case measure=>have:=HK1.out;omega);case rel=>exact⟨(u6),(wrap64 (aM+1)),zz6,H',⟨aHl⟩,⟨by(try simp only[fU]);(with_reducible repeat(first|apply Kd.aB6|apply Kd.aB5|apply Kd.aBd));exact FZ.out⟩,⟨by repeat(first|(with_reducible first|exact HB.out|apply aB7|apply aAs|apply aAx|refine aAg ?_ AM.out)|exact HB.out)⟩⟩
def aAv.l0:Nat->List Int->Int->Int->Option (List Int)
 | 0,_,_,_=>none
 | k+1,x3,x8,x9=>if x9<x8 then(if 0<=x9 then(if x9<(x3.length:Int) then(aAv.l0 k (x3.set (x9:Int).toNat (wrap64 (-(rd x3 x9)))) x8 (wrap64 (x9+1))) else(none)) else(none)) else(some x3)
def aAv.f (k:Nat) (l0:List Int):Option (List Int):=(aCo.f l0).bind λbO=>(aAv.l0 k bO (bO.length:Int) 0)
theorem aAv.aBp:∀ k,(∀ y0 y1 y2,LeO (aAv.l0 k y0 y1 y2) (aAv.l0 (k+1) y0 y1 y2))
 | 0=>λ_ _ _ r h=>by simp[aAv.l0]at h
 | k+1=>by
  have ih0:=aAv.aBp k
  ·intro y0 y1 y2
   unfold aAv.l0
   exact zm0
theorem aAv.mono:∀ a0 k,LeO (aAv.f k a0) (aAv.f (k+1) a0):=by
 intro a0 k;have ih0:=aAv.aBp k;unfold aAv.f;exact zm0
theorem aAv.calls (k:Nat) (A0:Option Addr) (c0:Nat) (l0:List Int) (r:List Int) (w:World) (hr0:Kd.C (Kd.int .i64) w A0 l0.length l0) (hc0:l0.length<=c0) (h:aAv.f k l0=some r) :
  Calls Tryz.prog 27 #[.slice A0 l0.length c0] w λe w'=>∃ v0_:Value,e = .returned (v0_)/\Kd.R (Kd.int .i64) 3 w' w.heap.size (λ_=>True) v0_ r/\Below w.heap.size w w':=by
 have HR0:=zK_ hr0;have HC0:=zK_ hc0;clear hr0 hc0;have HB:=zK_ (Below.refl w.heap.size w);have H:((aCo.f l0).bind λbO=>(aAv.l0 k bO (bO.length:Int) 0))=some r:=h;clear h;obtain⟨bO,A20,H⟩:=zO_ H;(try dsimp only at H);have A2:=zK_ A20;clear A20;have H':=zK_ H;clear H;go_enter Tryz.func27,Tryz.ntmps27;(go_wp2_with (first|((with_reducible refine aA5 (f:=43) rfl ?_);refine aB8 (some 6) rfl rfl Tryz.func43 (by kernel_rfl) rfl #[.slice A0 l0.length c0] rfl zz3 ?_;(with_reducible refine(aCo.calls _ _ l0 bO _ ?side1 ?side2 A2.out).mono ?_);(case side1=>exact bAu);(case side2=>exact HC0.out);rintro e w3 ⟨bN8,rfl,ho0,hb⟩;refine⟨_,rfl,?_⟩;have n_:=zA2 (Kd.aCn ho0 (aAa zz2)) (aA1 zz2 hb);clear HB;obtain⟨qB,HB⟩:=n_;clear ho0 hb;obtain⟨Ao4,co4,Q2⟩:=Kd.aBr qB.out;subst Q2)));(go_loopg [9] k (λkq v9 w'=>∃ (dH:List Int) (bV:Int),v9 = .int .i64 bV/\aA2 (aAv.l0 kq dH (bO.length:Int) bV=some r)/\aA2 (kq<=k)/\aA2 (Kd.R (Kd.int .i64) 3 w' w.heap.size (λ_=>True) (.slice Ao4 bO.length co4) dH)/\aA2 (Below w.heap.size w w')));case atStart=>exact⟨(bO),(0),zz6,H',⟨Nat.le_refl _⟩,⟨aXb⟩,⟨zz2⟩⟩
 case round =>
  clear H';(try clear c2);(try clear p2);(try clear c4);obtain⟨dH,bV,rfl,HA,HK1,bY,HB⟩:=hrel;have nG:=(Kd.aAl bY.out).1;rw[nG]at bY;(try simp only[nG])
  cases gk with
  | zero=>exact absurd HA.out (by simp[aAv.l0])
  | succ k1 =>
   have H:=HA.out;clear HA;simp only[aAv.l0]at H;by_cases c5:bV<(bO.length:Int);rotate_left
   ·rw[if_neg c5]at H;have fD:=zdN c5;(try(have n8:=fD;first|rw[nG]at n8|rw[<-nG]at n8));clear c5;obtain rfl:=zdI H;go_wp2;go_ret;exact⟨_,zz7,aLu,zz2⟩
   rw[if_pos c5]at H;have fD:=zdY c5;(try(have n8:=fD;first|rw[nG]at n8|rw[<-nG]at n8));clear c5;by_cases c6:0<=bV;rotate_left
   ·rw[if_neg c6]at H;exact absurd H (by simp)
   rw[if_pos c6]at H;have iO:=zdY c6;clear c6;by_cases c7:bV<(dH.length:Int);rotate_left
   ·rw[if_neg c7]at H;exact absurd H (by simp)
   rw[if_pos c7]at H;have gT:=zdY c7;(try(have uN:=gT;first|rw[nG]at uN|rw[<-nG]at uN));clear c7;obtain⟨gY,hy_⟩:∃ y_:List Int,y_=(dH.set (bV:Int).toNat (wrap64 (-(rd dH bV)))):=⟨_,rfl⟩;(replace H:(aAv.l0 k1 gY (bO.length:Int) (wrap64 (bV+1)))=some r:=zzY);have lE:=zK_ hy_;clear hy_;have H':=zK_ H;clear H;have aJ5:0<=(bV:Int):=zdT zz4;have aJ3:bV<(dH.length:Int):=zdT zz4;obtain⟨iM,aRj,cT⟩:=Kd.aCl (Kd.aAl bY.out).2.2 bV aJ5 aJ3;cases aRj;replace aJ5:=eq_true aJ5;replace aJ3:=eq_true aJ3;have p8:0<=(bV:Int):=zdT zz4;have q8:(bV:Int)<((dH.length:Int):Int):=zdT zz4;obtain⟨go8,co8,QE,QD,gl8,cl8,HG8⟩:=Kd.aHj bY.out (by omega);(first|cases QE|(injection QE with ea_ en_ ec_;(first|subst ea_|(injection ea_ with ea_;subst ea_));subst ec_;clear en_));have RC:=zK_ QD;have RD:=zK_ HG8;clear QD gl8 HG8;(first|simp only[add_plain]at cT|skip);obtain⟨NV,QC⟩:=Kd.aEf 0 bY.out (bV:Int) p8 q8;replace p8:=eq_true p8;replace q8:=eq_true q8;have NO:=Kd.aHi bY.out (bV:Int) (wrap64 (-(rd dH bV)));(go_wp2_with (first|((with_reducible refine aEb (t:=3) (p:=19) rfl ?_);refine aDy (t:=3) (p:=19) (v:=?vo_w10) (w1:=(wr.setCell ⟨go8,(bV:Int).toNat,none⟩ (.int .i64 (wrap64 (-(rd dH bV)))))) ?hg ?ho ?hn ?hr ?_;(case ho=>rfl);(case hg=>rfl);(case hn=>rfl);(case hr=>exact aD9);intro w10 hw;have hg:wr.grownBy w10 (some go8):=(by rw[hw];exact NO.2);have hp_:Kd.R (Kd.int .i64) 3 w10 w.heap.size (λ_=>True) (.slice (some ⟨go8,0,none⟩) dH.length co4) gY:=(by rw[hw,lE.out];exact NO.1);clear NO;have n_:=zA2 hp_ (by rw[hw];exact aAg (HB.out) RC.out:Below w.heap.size w w10);clear bY HB;obtain⟨bY,HB⟩:=n_;clear hg hw hp_)));(try simp only[<-nG]);go_roundg k1;(case measure=>have:=HK1.out;omega);case rel=>exact⟨(gY),(wrap64 (bV+1)),zz6,H',⟨aHl⟩,⟨by(try simp only[nG]);(with_reducible repeat(first|apply Kd.aB6|apply Kd.aB5|apply Kd.aBd));exact bY.out⟩,⟨zz2⟩⟩
def aAu.l0:Nat->List Int->List Int->List Int->Int->Int->Option (Int)
 | 0,_,_,_,_,_=>none
 | k+1,x0,x1,x9,iR,eZ=>if eZ<iR then(if 0<=eZ then(if eZ<(x9.length:Int) then(if eZ≥(x1.length:Int) then(some 1) else(if eZ<(x1.length:Int) then((cmp_Compare_int.f (rd x9 eZ) (rd x1 eZ)).bind λa6=>(if a6=0 then(aAu.l0 k x0 x1 x9 iR (wrap64 (eZ+1))) else(some a6))) else(none))) else(none)) else(none)) else(if(x0.length:Int)<(x1.length:Int) then(some (-1)) else(some 0))
def aAu.f (k:Nat) (l0:List Int) (l1:List Int):Option (Int):=aAu.l0 k l0 l1 l0 (l0.length:Int) 0
theorem aAu.aBp:∀ k,(∀ y0 y1 y2 y3 y4,LeO (aAu.l0 k y0 y1 y2 y3 y4) (aAu.l0 (k+1) y0 y1 y2 y3 y4))
 | 0=>λ_ _ _ _ _ r h=>by simp[aAu.l0]at h
 | k+1=>by
  have ih0:=aAu.aBp k
  ·intro y0 y1 y2 y3 y4
   unfold aAu.l0
   exact zm0
theorem aAu.mono:∀ a0 a1 k,LeO (aAu.f k a0 a1) (aAu.f (k+1) a0 a1):=by
 intro a0 a1 k;have ih0:=aAu.aBp k;unfold aAu.f;exact zm0
theorem aAu.calls (k:Nat) (A0:Option Addr) (c0:Nat) (l0:List Int) (A1:Option Addr) (c1:Nat) (l1:List Int) (r:Int) (w:World) (hr0:Kd.C (Kd.int .i64) w A0 l0.length l0) (hc0:l0.length<=c0) (hr1:Kd.C (Kd.int .i64) w A1 l1.length l1) (hc1:l1.length<=c1) (h:aAu.f k l0 l1=some r) :
  Calls Tryz.prog 29 #[.slice A0 l0.length c0,.slice A1 l1.length c1] w λe w'=>e = .returned (.int .i64 r)/\aB0 w w':=by
 have HR0:=zK_ hr0;have HC0:=zK_ hc0;clear hr0 hc0;have HR1:=zK_ hr1;have HC1:=zK_ hc1;clear hr1 hc1;have H:(aAu.l0 k l0 l1 l0 (l0.length:Int) 0)=some r:=h;clear h;have H':=zK_ H;clear H;go_enter Tryz.func29,Tryz.ntmps29;go_wp2;(go_loopg [11] k (λkq v11 w'=>∃ (aM:Int),v11 = .int .i64 aM/\aA2 (aAu.l0 kq l0 l1 l0 (l0.length:Int) aM=some r)/\aA2 (kq<=k)/\aB0 w w'));case atStart=>exact⟨(0),zz6,H',⟨Nat.le_refl _⟩,by repeat(first|exact aB0.refl _|apply aB0.step)⟩
 case round =>
  clear H';(try clear c1);(try clear c2);(try clear p2);obtain⟨aM,rfl,HA,HK1,⟨m1,rfl⟩⟩:=hrel
  cases gk with
  | zero=>exact absurd HA.out (by simp[aAu.l0])
  | succ k1 =>
   have H:=HA.out;clear HA;simp only[aAu.l0]at H;by_cases c3:aM<(l0.length:Int);rotate_left
   ·rw[if_neg c3]at H;have gX:=zdN c3;clear c3;by_cases c10:(l0.length:Int)<(l1.length:Int)
    ·rw[if_pos c10]at H;have fV:=zdY c10;have wV:decide (l0.length<l1.length)=true:=zdY (Int.ofNat_lt.mp c10);clear c10;obtain rfl:=zdI H;go_wp2;go_ret;exact⟨zz6,by repeat(first|exact aB0.refl _|apply aB0.step)⟩
    rw[if_neg c10]at H;have fV:=zdN c10;have wV:decide (l0.length<l1.length)=false:=zdN (λh=>c10 (Int.ofNat_lt.mpr h));clear c10;obtain rfl:=zdI H;go_wp2;go_ret;exact⟨zz6,by repeat(first|exact aB0.refl _|apply aB0.step)⟩
   rw[if_pos c3]at H;have gX:=zdY c3;clear c3;by_cases c4:0<=aM;rotate_left
   ·rw[if_neg c4]at H;exact absurd H (by simp)
   rw[if_pos c4]at H;have gW:=zdY c4;clear c4;by_cases c5:aM<(l0.length:Int);rotate_left
   ·rw[if_neg c5]at H;exact absurd H (by simp)
   rw[if_pos c5]at H;have fD:=zdY c5;clear c5;by_cases c6:aM≥(l1.length:Int)
   ·rw[if_pos c6]at H;have iO:decide ((l1.length:Int)<=aM)=true:=zdY c6;clear c6;obtain rfl:=zdI H;have aDu:0<=(aM:Int):=zdT zz4;have aDt:aM<(l0.length:Int):=zdT zz4;obtain⟨d7,aFt,bM⟩:=Kd.aCl HR0.out aM aDu aDt;cases aFt;replace aDu:=eq_true aDu;replace aDt:=eq_true aDt;go_wp2;go_ret;exact⟨zz6,by repeat(first|exact aB0.refl _|apply aB0.step)⟩
   rw[if_neg c6]at H;have iO:decide ((l1.length:Int)<=aM)=false:=zdN c6;clear c6;by_cases c7:aM<(l1.length:Int);rotate_left
   ·rw[if_neg c7]at H;exact absurd H (by simp)
   rw[if_pos c7]at H;have gT:=zdY c7;clear c7;obtain⟨a6,A80,H⟩:=zO_ H;(try dsimp only at H);have A8:=zK_ A80;clear A80;by_cases c9:a6=0;rotate_left
   ·rw[if_neg c9]at H;have iN:(a6==0)=false:=beq_eq_false_iff_ne.mpr c9;have wP:(a6 != 0)=true:=bne_iff_ne.mpr c9;obtain rfl:=zdI H;have aDu:0<=(aM:Int):=zdT zz4;have aDt:aM<(l0.length:Int):=zdT zz4;obtain⟨d7,aFt,bM⟩:=Kd.aCl HR0.out aM aDu aDt;cases aFt;replace aDu:=eq_true aDu;replace aDt:=eq_true aDt;have aEk:0<=(aM:Int):=zdT zz4;have aEj:aM<(l1.length:Int):=zdT zz4;obtain⟨dQ,aGt,bK⟩:=Kd.aCl HR1.out aM aEk aEj;cases aGt;replace aEk:=eq_true aEk;replace aEj:=eq_true aEj;(go_wp2_with (first|((with_reducible refine aA5 (f:=49) rfl ?_);refine aB8 (some 26) rfl rfl Tryz.func49 (by kernel_rfl) rfl #[.int .i64 (rd l0 aM),.int .i64 (rd l1 aM)] rfl zz3 ?_;(with_reducible refine(cmp_Compare_int.calls (rd l0 aM) (rd l1 aM) a6 _ A8.out).mono ?_);rintro e w' ⟨rfl,⟨nd,rfl⟩⟩;refine⟨_,rfl,?_⟩)));go_ret;exact⟨zz6,by repeat(first|exact aB0.refl _|apply aB0.step)⟩
   rw[if_pos c9]at H;have iN:(a6==0)=true:=beq_iff_eq.mpr c9;have wP:(a6 != 0)=false:=bne_eq_false_iff_eq.mpr c9;clear c9;have H':=zK_ H;clear H;have aDu:0<=(aM:Int):=zdT zz4;have aDt:aM<(l0.length:Int):=zdT zz4;obtain⟨d7,aFt,bM⟩:=Kd.aCl HR0.out aM aDu aDt;cases aFt;replace aDu:=eq_true aDu;replace aDt:=eq_true aDt;have aEk:0<=(aM:Int):=zdT zz4;have aEj:aM<(l1.length:Int):=zdT zz4;obtain⟨dQ,aGt,bK⟩:=Kd.aCl HR1.out aM aEk aEj;cases aGt;replace aEk:=eq_true aEk;replace aEj:=eq_true aEj;(go_wp2_with (first|((with_reducible refine aA5 (f:=49) rfl ?_);refine aB8 (some 26) rfl rfl Tryz.func49 (by kernel_rfl) rfl #[.int .i64 (rd l0 aM),.int .i64 (rd l1 aM)] rfl zz3 ?_;(with_reducible refine(cmp_Compare_int.calls (rd l0 aM) (rd l1 aM) a6 _ A8.out).mono ?_);rintro e w' ⟨rfl,⟨nd,rfl⟩⟩;refine⟨_,rfl,?_⟩)));go_roundg k1;(case measure=>have:=HK1.out;omega);case rel=>exact⟨(wrap64 (aM+1)),zz6,H',⟨aHl⟩,by repeat(first|exact aB0.refl _|apply aB0.step)⟩
end P
namespace Cf
def bTz (t:Option Addr×Nat×Nat):Value:=.slice t.1 t.2.1 t.2.2
def HK:Kd (Option Addr×Nat×Nat):=Kd.scalar bTz (λ_=>rfl)
def aI3:List Int->List Int->Int
 | [],[]=>0
 | [],_::_=>-1
 | _::_,[]=>1
 | x::xs,y::ys=>if x=y then aI3 xs ys else if x<y then -1 else 1
theorem aQx:∀ x:List Int,aI3 x x=0
 | []=>rfl
 | x::xs=>by unfold aI3;rw[if_pos rfl];exact aQx xs
theorem aHd:∀ x y:List Int,aI3 y x=- aI3 x y
 | [],[]=>rfl
 | [],_::_=>rfl
 | _::_,[]=>rfl
 | x::xs,y::ys=>by
  unfold aI3
  by_cases e:x=y
  ·rw[if_pos e,if_pos e.symm]
   exact aHd xs ys
  ·rw[if_neg e,if_neg (λh=>e h.symm)]
   by_cases h:x<y
   ·rw[if_pos h,if_neg (by omega)]
    rfl
   ·rw[if_neg h,if_pos (by omega)]
theorem aKv:∀ {x y:List Int},aI3 x y=0->x=y
 | [],[],_=>rfl
 | [],_::_,h=>by simp[aI3]at h
 | _::_,[],h=>by simp[aI3]at h
 | x::xs,y::ys,h=>by
  unfold aI3 at h
  by_cases e:x=y
  ·rw[if_pos e]at h
   rw[e,aKv h]
  ·rw[if_neg e]at h
   split at h<;>omega
theorem aPb:∀ {x y z:List Int},aI3 x y<=0->aI3 y z<=0->aI3 x z<=0
 | [],_,[],_,_=>by simp[aI3]
 | [],_,_::_,_,_=>by simp[aI3]
 | _::_,[],_,h,_=>by simp[aI3]at h
 | x::xs,y::ys,[],_,h=>by simp[aI3]at h
 | x::xs,y::ys,z::zs,h1,h2=>by
  unfold aI3 at h1 h2 ⊢
  by_cases e1:x=y
  ·subst e1
   by_cases e2:x=z
   ·rw[if_pos rfl]at h1
    rw[if_pos e2]at h2
    rw[if_pos e2]
    exact aPb h1 h2
   ·rw[if_neg e2]at h2
    rw[if_neg e2]
    exact h2
  ·rw[if_neg e1]at h1
   have h3:x<y:=by
    apply Classical.byContradiction
    intro c
    rw[if_neg c]at h1
    omega
   by_cases e2:y=z
   ·subst e2
    rw[if_neg e1,if_pos h3]
    omega
   ·rw[if_neg e2]at h2
    have h4:y<z:=by
     apply Classical.byContradiction
     intro c
     rw[if_neg c]at h2
     omega
    rw[if_neg (by omega),if_pos (by omega)]
    omega
theorem bFt {x y z:List Int} (h1:aI3 x y<0) (h2:aI3 y z<0):aI3 x z<0:=by
 have h3:=aPb (Int.le_of_lt h1) (Int.le_of_lt h2)
 apply Classical.byContradiction
 intro c
 have h4:aI3 x z=0:=by omega
 have h5:=aKv h4
 subst h5
 have:=aHd x y
 omega
def sortL (L:List (List Int)):List (List Int):=L.mergeSort λx y=>decide (aI3 x y<=0)
theorem aI0 (L:List (List Int)):(sortL L).Perm L:=List.mergeSort_perm L _
theorem aQi (L:List (List Int)):(sortL L).length=L.length:=(aI0 L).length_eq
theorem aKi {L:List (List Int)} {x:List Int}:x∈sortL L↔x∈L:=(aI0 L).mem_iff
theorem aQh (L:List (List Int)):(sortL L).Pairwise λx y=>aI3 x y<=0:=by
 have h:=List.pairwise_mergeSort (le:=λx y:List Int=>decide (aI3 x y<=0)) (λa b c h1 h2=>zdY (aPb (zdT h1) (zdT h2))) (λa b=>by have:=aHd a b;simp;omega) L
 exact h.imp λh=>zdT h
theorem bBp {L s:List (List Int)} (h1:s.Perm L) (h2:s.Pairwise λx y=>aI3 x y<=0):s=sortL L :=
 List.Perm.eq_of_pairwise (λa b _ _ h3 h4=>aKv (by have:=aHd a b;omega)) h2 (aQh L) (h1.trans (aI0 L).symm)
theorem bCo {w:World} {base g cap:Nat} {ok:Nat->Prop} {f:Nat->Nat} {cur:Array Value} {Z:List (List Int×Nat)} (hb:base<=g) (hok:ok g) (hn:Z.length<=cap) (hcm:cap<=maxLen) (hcs:cur.size=cap) (hc:w.heap[g]? = some (.cells cur 26 (0,0))) (hz:(Z.map (·.2)).Nodup) (hH:aJq w base ok f cur Z) :
  Kd.S (Kd.slice 3 (Kd.int .i64)) 26 w base ok (.slice (some ⟨g,0,none⟩) Z.length cap) (Z.map (·.1)):=by
 have h2:aJq w base ok (λk=>(Z.map (·.2)).idxOf (f k)) cur (Z.map (·.1)).zipIdx:=by
  intro j x i hj
  rw[List.getElem?_zipIdx,Nat.zero_add,List.getElem?_map]at hj
  obtain⟨y,hy,he⟩:=Option.map_eq_some_iff.1 hj
  obtain⟨z,hz1,hz2⟩:=Option.map_eq_some_iff.1 hy
  obtain⟨rfl,rfl⟩:=Prod.mk.inj he
  obtain⟨x,i⟩:=z
  obtain rfl:x=y:=hz2
  obtain⟨v,hv,hR⟩:=hH j x i hz1
  refine⟨v,hv,Kd.aBs hR λk hk=>⟨hk.1,?_⟩⟩
  have hm:(Z.map (·.2))[j]? = some i:=by rw[List.getElem?_map,hz1];rfl
  obtain⟨hjl,hje⟩:=List.getElem?_eq_some_iff.1 hm
  show (Z.map (·.2)).idxOf (f k)=j
  rw[hk.2,<-hje]
  exact hz.idxOf_getElem j hjl
 have h3:=aTh (rows:=Z.map (·.1)) hb hok (by rw[List.length_map];exact hn) hcm hcs hc h2
 rw[List.length_map]at h3
 exact h3
end Cf
namespace P
def aBx.ren:Go.Shelf.Ren:=⟨λn=>if n=6 then 28 else if n=14 then 47 else if n=15 then 48 else if n=20 then 74 else if n=21 then 75 else if n=22 then 76 else if n=23 then 77 else if n=24 then 78 else if n=25 then 79 else if n=26 then 80 else if n=27 then 81 else if n=28 then 82 else if n=29 then 83 else if n=46 then 98 else if n=47 then 99 else if n=48 then 100 else if n=49 then 101 else if n=50 then 102 else if n=57 then 105 else n,λn=>if n=0 then 0 else if n=3 then 3 else if n=4 then 4 else if n=5 then 5 else if n=9 then 9 else if n=22 then 30 else if n=24 then 26 else if n=25 then 56 else if n=39 then 66 else if n=45 then 93 else if n=46 then 94 else if n=50 then 36 else if n=53 then 100 else if n=55 then 102 else if n=66 then 107 else if n=70 then 111 else if n=76 then 113 else if n=77 then 114 else n,λn=>n⟩
theorem aBx.lay:Go.Proofs.SlLaysF.n6 Tryz.prog aBx.ren where
 mixed:=by kernel_rfl
 f6:=Exists.intro ("slices.SortFunc[[][]int,[]int]") (And.intro (by kernel_rfl) (by kernel_rfl))
 f14:=Exists.intro ("slices.pdqsortCmpFunc[[]int]") (And.intro (by kernel_rfl) (by kernel_rfl))
 f15:=by kernel_rfl
 f20:=Exists.intro ("slices.insertionSortCmpFunc[[]int]") (And.intro (by kernel_rfl) (by kernel_rfl))
 f21:=Exists.intro ("slices.heapSortCmpFunc[[]int]") (And.intro (by kernel_rfl) (by kernel_rfl))
 f22:=Exists.intro ("slices.breakPatternsCmpFunc[[]int]") (And.intro (by kernel_rfl) (by kernel_rfl))
 f23:=Exists.intro ("slices.choosePivotCmpFunc[[]int]") (And.intro (by kernel_rfl) (by kernel_rfl))
 f24:=Exists.intro ("slices.reverseRangeCmpFunc[[]int]") (And.intro (by kernel_rfl) (by kernel_rfl))
 f25:=Exists.intro ("slices.partialInsertionSortCmpFunc[[]int]") (And.intro (by kernel_rfl) (by kernel_rfl))
 f26:=Exists.intro ("slices.partitionEqualCmpFunc[[]int]") (And.intro (by kernel_rfl) (by kernel_rfl))
 f27:=Exists.intro ("slices.partitionCmpFunc[[]int]") (And.intro (by kernel_rfl) (by kernel_rfl))
 f28:=by kernel_rfl
 f29:=by kernel_rfl
 f46:=Exists.intro ("slices.siftDownCmpFunc[[]int]") (And.intro (by kernel_rfl) (by kernel_rfl))
 f47:=by kernel_rfl
 f48:=by kernel_rfl
 f49:=Exists.intro ("slices.medianAdjacentCmpFunc[[]int]") (And.intro (by kernel_rfl) (by kernel_rfl))
 f50:=Exists.intro ("slices.medianCmpFunc[[]int]") (And.intro (by kernel_rfl) (by kernel_rfl))
 f57:=Exists.intro ("slices.order2CmpFunc[[]int]") (And.intro (by kernel_rfl) (by kernel_rfl))
 t0:=by kernel_rfl
 a0:=λ_=>rfl
 z0:=λ_=>rfl
 v0:=λ_=>rfl
 t3:=by kernel_rfl
 a3:=λ_=>rfl
 z3:=λ_=>rfl
 v3:=λ_=>rfl
 t4:=by kernel_rfl
 a4:=λ_=>rfl
 z4:=λ_=>rfl
 v4:=λ_=>rfl
 t5:=by kernel_rfl
 a5:=λ_=>rfl
 z5:=λ_=>rfl
 v5:=λ_=>rfl
 t9:=by kernel_rfl
 a9:=λ_=>rfl
 z9:=λ_=>rfl
 v9:=λ_=>rfl
 t22:=by kernel_rfl
 a22:=λ_=>rfl
 z22:=λ_=>rfl
 v22:=λ_=>rfl
 a24:=λ_=>rfl
 z24:=λ_=>rfl
 t25:=by kernel_rfl
 a25:=λ_=>rfl
 z25:=λ_=>rfl
 v25:=λ_=>rfl
 t39:=by kernel_rfl
 a39:=λ_=>rfl
 z39:=λ_=>rfl
 v39:=λ_=>rfl
 t45:=by kernel_rfl
 a45:=λ_=>rfl
 z45:=λ_=>rfl
 v45:=λ_=>rfl
 t46:=by kernel_rfl
 a46:=λ_=>rfl
 z46:=λ_=>rfl
 v46:=λ_=>rfl
 t50:=by kernel_rfl
 a50:=λ_=>rfl
 z50:=λ_=>rfl
 v50:=λ_=>rfl
 t53:=by kernel_rfl
 a53:=λ_=>rfl
 z53:=λ_=>rfl
 v53:=λ_=>rfl
 t55:=by kernel_rfl
 a55:=λ_=>rfl
 z55:=λ_=>rfl
 v55:=λ_=>rfl
 t66:=by kernel_rfl
 a66:=λ_=>rfl
 z66:=λ_=>rfl
 v66:=λ_=>rfl
 t70:=by kernel_rfl
 a70:=λ_=>rfl
 z70:=λ_=>rfl
 v70:=λ_=>rfl
 t76:=by kernel_rfl
 a76:=λ_=>rfl
 z76:=λ_=>rfl
 v76:=λ_=>rfl
 t77:=by kernel_rfl
 a77:=λ_=>rfl
 z77:=λ_=>rfl
 v77:=λ_=>rfl
theorem aBx.other {α:Type} [Inhabited α] (enc:α->Value) (w:World) (g m:Nat) (dk:Array α) (os:Array Obj) (k:Nat) (hk:k≠g) (hlt:k<w.heap.size):(Go.Proofs.sortWorld enc w g 0 m dk os).heap[k]? = w.heap[k]?:=by
 show ((w.heap.modify g (Go.Sort.onCells (Go.Sort.putCells enc 0 dk)))++os)[k]? = _;rw[Array.getElem?_append_left (by rw[Array.size_modify];exact hlt),Array.getElem?_modify,if_neg (λe=>hk e.symm)]
theorem aBx.here {α:Type} [Inhabited α] (enc:α->Value) (w:World) (g m:Nat) (dk:Array α) (os:Array Obj) {cur:Array Value} {t:TypeId} (hc:w.heap[g]? = some (.cells cur t (0,0))):(Go.Proofs.sortWorld enc w g 0 m dk os).heap[g]? = some (.cells (Go.Sort.putCells enc 0 dk cur) t (0,0)):=by
 have hlt:g<w.heap.size:=aCt hc;show ((w.heap.modify g (Go.Sort.onCells (Go.Sort.putCells enc 0 dk)))++os)[g]? = _;rw[Array.getElem?_append_left (by rw[Array.size_modify];exact hlt),Array.getElem?_modify,if_pos rfl,hc];rfl
theorem aBx.calls (k:Nat) (L:List (List Int)) (base:Nat) (ok:Nat->Prop) (v:Value) (w:World) (hS:Kd.S (Kd.slice 3 (Kd.int .i64)) 26 w base ok v L) (hl:L.length<=1000000000) (hcmp:∀ x∈L,∀ y∈L,aAu.f k x y=some (Cf.aI3 x y)) :
  Calls Tryz.prog 28 #[v,.func (.func 29) #[] #[]] w λe w'=>e = .returned (.tuple #[])/\Kd.S (Kd.slice 3 (Kd.int .i64)) 26 w' base ok v (Cf.sortL L)/\Below base w w':=by
 by_cases hL:L=[]
 ·subst hL;obtain⟨A,c,rfl⟩:=Kd.aGa hS;have h:=Go.Proofs.AnyF.slices_SortFunc_none (P:=Tryz.prog) (ρ:=aBx.ren) { aBx.lay with} A c (.func (.func 29) #[] #[]) w;change Calls Tryz.prog 28 _ _ _ at h;refine h.mono ?_;rintro e w' ⟨rfl,rfl⟩;exact⟨rfl,by rw[(Cf.aI0 []).eq_nil];exact hS,Below.refl _ _⟩
 have hpos:0<L.length:=List.length_pos_iff.2 hL;obtain⟨g,cap,rfl,_⟩:=Kd.bA6 hS hpos;obtain⟨f,cur,hb,hok,_,hnc,hcm,hcs,hc,hH⟩:=Cf.bA5 hS;have hin:Inhabited (Fin L.length):=⟨⟨0,hpos⟩⟩;have hlt:∀ i:Fin L.length,i.val<cur.size:=λi=>by have:=i.isLt;omega
 have key:∀ i:Fin L.length,Kd.R (Kd.int .i64) 3 w base (λk=>(ok k/\k≠g)/\f k=i.val) (cur[i.val]'(hlt i)) (L[i.val]'i.isLt):=by
  intro i;obtain⟨v,hv,hR⟩:=hH i.val (L[i.val]'i.isLt) i.val (by rw[List.getElem?_zipIdx,Nat.zero_add,zdH i.isLt];rfl);rw[Array.getElem?_eq_getElem (hlt i)]at hv;rw[zdI hv];exact hR
 (have h1:Go.Proofs.OneCell (λi:Fin L.length=>cur[i.val]'(hlt i)):=λi=>(Kd.bPn (key i)).2);have hsz:(List.finRange L.length).toArray.size=L.length:=by simp
 have hget:∀ j,(hj:j<L.length)->(List.finRange L.length).toArray[j]! = ⟨j,hj⟩:=λj hj=>by
  rw[getElem!_pos _ j (by simpa using hj)];simp
 have hHo:Go.Sort.Holds (λi:Fin L.length=>cur[i.val]'(hlt i)) w g 0 (List.finRange L.length).toArray:=by
  intro j hj;rw[hsz]at hj;refine⟨?_,aA0 hc _⟩;rw[hget j hj,aAc hc,Nat.zero_add,Array.getElem?_eq_getElem (by omega)]
 have hcf:∀ x y:Fin L.length,Go.Proofs.ltOf (λi j:Fin L.length=>Cf.aI3 (L[i.val]'i.isLt) (L[j.val]'j.isLt)) x y=decide (Cf.aI3 (L[x.val]'x.isLt) (L[y.val]'y.isLt)<0):=λ_ _=>rfl
 have hO:Go.Sort.SWO (Go.Proofs.ltOf (λi j:Fin L.length=>Cf.aI3 (L[i.val]'i.isLt) (L[j.val]'j.isLt))):=by
  refine⟨λx=>?_,λx y z h1 h2=>?_,λx y z h1 h2=>?_⟩
  ·rw[hcf,Cf.aQx];rfl
  ·rw[hcf]at *;exact zdY (Cf.bFt (zdT h1) (zdT h2))
  ·rw[hcf]at *;have g1:=of_decide_eq_false h1;have g2:=of_decide_eq_false h2;have n1:=Cf.aHd (L[x.val]'x.isLt) (L[y.val]'y.isLt);have n2:=Cf.aHd (L[y.val]'y.isLt) (L[z.val]'z.isLt);have n3:=Cf.aHd (L[x.val]'x.isLt) (L[z.val]'z.isLt);have:=Cf.aPb (x:=L[z.val]'z.isLt) (y:=L[y.val]'y.isLt) (z:=L[x.val]'x.isLt) (by omega) (by omega);exact zdN (by omega)
 have hreads:Go.Proofs.CmpReads Tryz.prog 29 #[] (λi:Fin L.length=>cur[i.val]'(hlt i)) (λi j:Fin L.length=>Cf.aI3 (L[i.val]'i.isLt) (L[j.val]'j.isLt)) g 0 (List.finRange L.length).toArray.size w:=by
  intro m os dk _ x y;have hx:=Kd.aHh (w1:=Go.Proofs.sortWorld (λi:Fin L.length=>cur[i.val]'(hlt i)) w g 0 m dk os) (key x) (λk hk hl=>aBx.other _ w g m dk os k hk.1.2 hl);have hy:=Kd.aHh (w1:=Go.Proofs.sortWorld (λi:Fin L.length=>cur[i.val]'(hlt i)) w g 0 m dk os) (key y) (λk hk hl=>aBx.other _ w g m dk os k hk.1.2 hl);obtain⟨Ax,cx,ex,hcx,hCx⟩:=Kd.aLq hx;obtain⟨Ay,cy,ey,hcy,hCy⟩:=Kd.aLq hy;show Calls Tryz.prog 29 #[cur[x.val]'(hlt x),cur[y.val]'(hlt y)] _ _;rw[ex,ey];refine(aAu.calls k Ax cx _ Ay cy _ _ _ hCx hcx hCy hcy (hcmp _ (List.getElem_mem _) _ (List.getElem_mem _))).mono ?_;rintro e w' ⟨rfl,hd⟩;exact⟨rfl,hd.out⟩
 have eg:∀ args w,(callFunc 29 args).run Tryz.prog w = .ok (.enter 29 args) w:=Go.Proofs.enters_of Tryz.func29 (by kernel_rfl) rfl;have hT:=Go.Proofs.Any.slices_SortFunc aBx.lay (λi:Fin L.length=>cur[i.val]'(hlt i)) h1 (λi j:Fin L.length=>Cf.aI3 (L[i.val]'i.isLt) (L[j.val]'j.isLt)) hO 29 #[] g 0 cap (List.finRange L.length).toArray w eg hreads.lays hHo (aCt hc) (by rw[hsz];omega);change Calls Tryz.prog 28 _ _ _ at hT;rw[hsz]at hT;refine hT.mono ?_;rintro e w' ⟨rfl,d',n,os,hP,hSo,rfl⟩;clear hT hreads eg;refine⟨rfl,?_,rfl,rfl,rfl,?_,λk hk=>?_⟩
 ·obtain⟨hds,_,hperm⟩:=hP;rw[hsz]at hds;(have e1:d'.extract 0 L.length=d':=Array.ext (by rw[Array.size_extract];omega) λi _ _=>by simp);(have e2:(List.finRange L.length).toArray.extract 0 L.length=(List.finRange L.length).toArray:=by have h_:(List.finRange L.length).take L.length=List.finRange L.length:=List.take_of_length_le (by simp);simp[h_]);rw[e1,e2]at hperm;have hp:d'.toList.Perm (List.finRange L.length):=hperm
  have hmap:(d'.toList.map λi:Fin L.length=>(L[i.val]'i.isLt,i.val)).map (·.1)=Cf.sortL L:=by
   rw[List.map_map];refine Cf.bBp ?_ ?_
   ·refine(hp.map _).trans ?_
    have e:(List.finRange L.length).map ((λp:List Int×Nat=>p.1) ∘ λi:Fin L.length=>(L[i.val]'i.isLt,i.val))=L:=by
     (refine List.ext_getElem (by simp) λi h1 h2=>?_);simp
    rw[e]
   ·rw[List.pairwise_map,List.pairwise_iff_getElem];intro i j hi hj hij;(have hi':i<d'.size:=by simpa using hi);(have hj':j<d'.size:=by simpa using hj);have hs:=hSo i j (Nat.zero_le _) hij (by omega);rw[getElem!_pos d' j hj',getElem!_pos d' i hi',hcf]at hs;have hs2:=of_decide_eq_false hs;have hn:=Cf.aHd (L[(d'[i]).val]'(d'[i]).isLt) (L[(d'[j]).val]'(d'[j]).isLt);show Cf.aI3 (L[(d'.toList[i]).val]'_) (L[(d'.toList[j]).val]'_)<=0;simp only[Array.getElem_toList];omega
  rw[<-hmap];have hlen:(d'.toList.map λi:Fin L.length=>(L[i.val]'i.isLt,i.val)).length=L.length:=by rw[List.length_map,Array.length_toList,hds]
  have hnd:((d'.toList.map λi:Fin L.length=>(L[i.val]'i.isLt,i.val)).map (·.2)).Nodup:=by
   rw[List.map_map];refine(hp.map _).nodup_iff.2 ?_
   have e:(List.finRange L.length).map ((λp:List Int×Nat=>p.2) ∘ λi:Fin L.length=>(L[i.val]'i.isLt,i.val))=List.range L.length:=by
    (refine List.ext_getElem (by simp) λi h1 h2=>?_);simp
   rw[e];exact List.nodup_range
  have hSZ:=Cf.bCo (w:=Go.Proofs.sortWorld (λi:Fin L.length=>cur[i.val]'(hlt i)) w g 0 n d' os) (base:=base) (g:=g) (cap:=cap) (ok:=ok) (f:=f) (cur:=Go.Sort.putCells (λi:Fin L.length=>cur[i.val]'(hlt i)) 0 d' cur) (Z:=d'.toList.map λi:Fin L.length=>(L[i.val]'i.isLt,i.val)) hb hok (by omega) hcm (by unfold Go.Sort.putCells;rw[Array.size_mapIdx];exact hcs) (aBx.here _ w g n d' os hc) hnd ?_
  ·rw[hlen]at hSZ;exact hSZ
  ·intro j x i hj;rw[List.getElem?_map]at hj;obtain⟨t,ht,he⟩:=Option.map_eq_some_iff.1 hj;obtain⟨rfl,rfl⟩:=Prod.mk.inj he;obtain⟨hjl,hje⟩:=List.getElem?_eq_some_iff.1 ht;(have hjs:j<d'.size:=by simpa using hjl);refine⟨cur[t.val]'(hlt t),?_,Kd.aBs (Kd.aHh (key t) (λk hk hl=>aBx.other _ w g n d' os k hk.1.2 hl)) λk hk=>⟨hk.1.1,hk.2⟩⟩;unfold Go.Sort.putCells;rw[Array.getElem?_mapIdx,Array.getElem?_eq_getElem (show j<cur.size by omega),Option.map_some,if_pos ⟨Nat.zero_le _,by omega⟩,Nat.sub_zero,getElem!_pos d' j hjs];(have e3:d'[j]=t:=by rw[<-hje,Array.getElem_toList]);rw[e3]
 ·show w.heap.size<=((w.heap.modify g (Go.Sort.onCells (Go.Sort.putCells (λi:Fin L.length=>cur[i.val]'(hlt i)) 0 d')))++os).size;rw[Array.size_append,Array.size_modify];omega
 ·have hgl:g<w.heap.size:=aCt hc;exact aBx.other _ w g n d' os k (by omega) (by omega)
end P
end Go.Proofs.YtnbljcgdgblgoaaGreat
