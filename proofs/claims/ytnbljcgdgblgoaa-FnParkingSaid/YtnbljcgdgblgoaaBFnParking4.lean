/- A part of the proof of FnParking. -/
import Derived.Test.YtnbljcgdgblgoaaBFnParking3
import Derived.Test.YtnbljcgdgblgoaaBFnParking0
import Derived.Test.YtnbljcgdgblgoaaBFnParking2
import Derived.Deep.RegionLaw
import Derived.Deep.LoopGhost
import Derived.Lib.Walk
import Derived.Lib.SliceRun
import Derived.Test.YtnbljcgdgblgoaaBFnParking1
import Derived.Test.YtnbljcgdgblgoaaBFnParkingWApart
import Derived.Test.YtnbljcgdgblgoaaBFnParkingWMore
import Derived.Test.YtnbljcgdgblgoaaBFnParkingWWords
set_option linter.unusedVariables false
set_option linter.unusedSimpArgs false
set_option maxHeartbeats 16000000
set_option maxRecDepth 1000000
section
namespace Go.Proofs.Ytnbljcgdgblgoaa.P
open Go.RowKit Go.Proofs.YtnbljcgdgblgoaaW.PrintWords Go.Proofs.YtnbljcgdgblgoaaW.PrintLast Go.Proofs.YtnbljcgdgblgoaaW.PrintMore
attribute [local go_sem] aCt aCr aDb aDa aCa aC9 aCs aCq
def aBn.l0:Nat→Int→List Int→Int→Option (List Int)
 | 0,_,_,_=>none
 | k+1,x0,x3,x4=>if 0≤x4 then(if(shr .i64 x0 x4)>0 then(if(Go.bits .and .i64 (shr .i64 x0 x4) 1)=1 then(if x3.length<17592186044416 then(aBn.l0 k x0 (x3++[x4]) (wrap64 (x4+1))) else(none)) else(aBn.l0 k x0 x3 (wrap64 (x4+1)))) else(some x3)) else(none)
def aBn.f (k:Nat) (a0:Int):Option (List Int):=aBn.l0 k a0 ([]:List Int) 0
theorem aBn.mono_l:∀ k,(∀ y0 y1 y2,LeO (aBn.l0 k y0 y1 y2) (aBn.l0 (k+1) y0 y1 y2))
 | 0=>fun _ _ _ r h=>by simp[aBn.l0]at h
 | k+1=>by
  have ih0:=aBn.mono_l k
  ·intro y0 y1 y2
   unfold aBn.l0
   exact zm0
theorem aBn.mono:∀ a0 k,LeO (aBn.f k a0) (aBn.f (k+1) a0):=by
 intro a0 k;have ih0:=aBn.mono_l k;unfold aBn.f;exact zm0
theorem aBn.calls (k:Nat) (a0:Int) (r:List Int) (w:World) (h:aBn.f k a0=some r) :
  Calls Try.prog 145 #[.int .i64 a0] w fun e w'=>∃ v0_:Value,e = .returned (v0_)∧Kd.R (Kd.int .i64) 3 w' w.heap.size (fun _=>True) v0_ r∧Below w.heap.size w w':=by
 have HB:=zK_ (Below.refl w.heap.size w);have H:(aBn.l0 k a0 ([]:List Int) 0)=some r:=h;clear h;have H':=zK_ H;clear H;go_enter Try.func145,Try.ntmps145;go_wp2;(go_loopg [3,4] k (fun kq v3 v4 w'=>∃ (dS:List Int) (bF:Int),v4 = .int .i64 bF∧Aside0 (aBn.l0 kq a0 dS bF=some r)∧Aside0 (kq≤k)∧Aside0 (Kd.R (Kd.int .i64) 3 w' w.heap.size (fun _=>True) v3 dS)∧Aside0 (Below w.heap.size w w')));case atStart=>exact⟨(([]:List Int)),(0),zz6,H',⟨Nat.le_refl _⟩,⟨aRk⟩,⟨zz2⟩⟩
 case round =>
  clear H';(try clear c1);obtain⟨dS,bF,rfl,HA,HK1,bU,HB⟩:=hrel
  cases gk with
  | zero=>exact absurd HA.out (by simp[aBn.l0])
  | succ k1 =>
   have H:=HA.out;clear HA;simp only[aBn.l0]at H;by_cases c2:0≤bF;rotate_left
   ·rw[if_neg c2]at H;exact absurd H (by simp)
   rw[if_pos c2]at H;have mR:=eq_true c2;have nR:decide (0≤bF)=true:=decide_eq_true c2;clear c2;obtain⟨sY,tJ⟩:∃ j_:Int,(shr .i64 a0 bF)=j_:=⟨_,rfl⟩;(replace H:(if(sY)>0 then(if(Go.bits .and .i64 (sY) 1)=1 then(if dS.length<17592186044416 then(aBn.l0 k1 a0 (dS++[bF]) (wrap64 (bF+1))) else(none)) else(aBn.l0 k1 a0 dS (wrap64 (bF+1)))) else(some dS))=some r:=by first|(rw[tJ]at H;exact H)|(simp only[tJ]at H ⊢;exact H));have NO:(a0/2^min bF.toNat 64)=sY:=tJ;have NN:bF≤64→(a0/2^bF.toNat)=sY:=aH4 tJ;by_cases c4:(sY)>0;rotate_left
   ·rw[if_neg c4]at H;have gJ:decide (0<(sY))=false:=decide_eq_false c4;clear c4;obtain rfl:=Option.some.inj H;go_wp2;go_ret;exact⟨_,by first|rfl|(simp[aCm,aCl]<;>rfl)|(simp only[← tJ];first|rfl|(simp[aCm,aCl]<;>rfl))|(simp[*,aCm,aCl]<;>rfl),aHu,zz2⟩
   rw[if_pos c4]at H;have gJ:decide (0<(sY))=true:=decide_eq_true c4;clear c4;have f7:=eq_true (of_decide_eq_true zz4:0≤bF);by_cases c7:(Go.bits .and .i64 (sY) 1)=1;rotate_left
   ·rw[if_neg c7]at H;have f6:((Go.bits .and .i64 (sY) 1)==1)=false:=beq_eq_false_iff_ne.mpr c7;have sW:((Go.bits .and .i64 (sY) 1) != 1)=true:=bne_iff_ne.mpr c7;have H':=zK_ H;clear H;go_wp2;go_roundg k1;(case measure=>have:=HK1.out;omega);case rel=>exact⟨(dS),(wrap64 (bF+1)),zz6,H',⟨aG6⟩,⟨aHu⟩,⟨zz2⟩⟩
   rw[if_pos c7]at H;have f6:((Go.bits .and .i64 (sY) 1)==1)=true:=beq_iff_eq.mpr c7;have sW:((Go.bits .and .i64 (sY) 1) != 1)=false:=bne_eq_false_iff_eq.mpr c7;clear c7;by_cases c8:dS.length<17592186044416;rotate_left
   ·rw[if_neg c8]at H;exact absurd H (by simp)
   rw[if_pos c8]at H;have KX:=zK_ c8;clear c8;obtain⟨q7,hy_⟩:∃ y_:List Int,y_=(dS++[bF]):=⟨_,rfl⟩;(replace H:(aBn.l0 k1 a0 q7 (wrap64 (bF+1)))=some r:=zzY);have oX:=zK_ hy_;clear hy_;have H':=zK_ H;clear H;(go_wp2_with (first|((with_reducible refine aB4 (b:=.append) (xs:=#[.tmp 16,.tmp 18]) rfl ?_);at_builtin;refine Kd.R_append (Kd.int .i64) (w0:=w) w.heap.size rfl (.tmp 16) (.tmp 18) 26 3 (.int .i64 0) 8 rfl Try.underlying26 aDz rfl (by decide) (by omega) u3 dS bF [.int .i64 bF] (fun _=>True) (fun _=>False) rfl rfl ?aP (fun _ hk=>hk.elim) ?aF ?aO ?aB ?aS ?aL ?_;(case aP=>exact rfl);(case aB=>exact zz2);(case aF=>exact(fun _ _=>trivial));(case aO=>exact aHu);(case aS=>exact(aAd zz2));(case aL=>have:=KX.out;omega);intro v102 w9 ho hb hg hat;rw[← oX.out]at ho;have n_:=zA2 hb ho;clear HB bU;obtain⟨HB,q5⟩:=n_;clear ho hb hg hat)));go_roundg k1;(case measure=>have:=HK1.out;omega);case rel=>exact⟨(q7),(wrap64 (bF+1)),zz6,H',⟨aG6⟩,⟨by(with_reducible repeat(first|apply Kd.R_alloc|apply Kd.R_drewN|apply Kd.R_drew));exact q5.out⟩,⟨zz2⟩⟩
def aBl.f (k:Nat) (l0:List (List Int)):Option (Int):=(aBh.f k l0).bind fun bY=>(if bY=true then((aBn.f k (wrap64 ((shl .i64 1 (l0.length:Int))-1))).bind fun aW=>((aAm.f k l0 aW (wrap64 ((shl .i64 1 (l0.length:Int))-1))).bind fun dT=>(some dT))) else(some 0))
theorem aBl.mono:∀ a0 k,LeO (aBl.f k a0) (aBl.f (k+1) a0):=by
 intro a0 k;unfold aBl.f;repeat' first|(with_reducible apply aBh.mono)|(with_reducible apply aBn.mono)|(with_reducible apply aAm.mono)|(with_reducible exact LeO.refl _)|(with_reducible exact LeO.none _)|(with_reducible refine LeO.ite ?_ ?_)|(with_reducible refine LeO.bind ?_ (fun _=>?_))|apply aBh.mono|apply aBn.mono|apply aAm.mono|exact LeO.none _|refine LeO.ite ?_ ?_|refine LeO.bind ?_ (fun _=>?_)
def aBl.T3:Bool×List (List Nat×List Nat):=(true,[([],[]),([],[]),([1],[1]),([2],[2]),([3],[3]),([4],[4]),([],[]),([6],[6]),([7],[7]),([8],[8]),([0,5,9,5],[0,5,9]),([10,10,0,1,2,3,4,5,6,7,8,9,10],[10])])
def aBl.B3:List Nat:=[0,0,2,6,14,30,0,64,192,448,1023,2047]
theorem aBl.tab3:aFp .any (opsOf Try.f120 3)=aBl.T3:=by kernel_rfl
theorem aBl.bits3:aEa aBl.T3.2 aBl.B3=true:=by kernel_rfl
theorem aBl.calls (k:Nat) (A0:Option Addr) (c0:Nat) (l0:List (List Int)) (r:Int) (w:World) (hr0:Kd.C (Kd.slice 3 (Kd.int .i64)) w A0 l0.length l0) (hc0:l0.length≤c0) (h:aBl.f k l0=some r) :
  Calls Try.prog 120 #[.slice A0 l0.length c0] w fun e w'=>e = .returned (.int .i64 r)∧Below w.heap.size w w':=by
 have HR0:=zK_ hr0;have HC0:=zK_ hc0;clear hr0 hc0;have HB:=zK_ (Below.refl w.heap.size w);have H:((aBh.f k l0).bind fun bY=>(if bY=true then((aBn.f k (wrap64 ((shl .i64 1 (l0.length:Int))-1))).bind fun aW=>((aAm.f k l0 aW (wrap64 ((shl .i64 1 (l0.length:Int))-1))).bind fun dT=>(some dT))) else(some 0)))=some r:=h;clear h;obtain⟨bY,A20,H⟩:=zO_ H;(try dsimp only at H);have A2:=zK_ A20;clear A20;by_cases c3:bY=true;rotate_left
 ·replace c3:=Bool.eq_false_iff.mpr c3;subst c3;rw[if_neg (show ¬ (false=true) by decide)]at H;obtain rfl:=Option.some.inj H;go_enter Try.func120,Try.ntmps120;(go_wp2_with (first|((with_reducible refine aAb (f:=143) rfl ?_);refine aBd (some 4) rfl rfl Try.func143 (by kernel_rfl) rfl #[.slice A0 l0.length c0] rfl zz3 ?_;(with_reducible refine(aBh.calls k _ _ l0 false _ ?side1 ?side2 A2.out).mono ?_);(case side1=>exact aTg);(case side2=>exact HC0.out);rintro e w' ⟨rfl,⟨nd,rfl⟩⟩;refine⟨_,rfl,?_⟩)));go_ret;exact⟨zz9,zz2⟩
 subst c3;rw[if_pos rfl]at H;obtain⟨q6,qE⟩:∃ j_:Int,(shl .i64 1 (l0.length:Int))=j_:=⟨_,rfl⟩;(replace H:((aBn.f k (wrap64 ((q6)-1))).bind fun aW=>((aAm.f k l0 aW (wrap64 ((q6)-1))).bind fun dT=>(some dT)))=some r:=by first|(rw[qE]at H;exact H)|(simp only[qE]at H ⊢;exact H));(try rw[qE]at A2);have tI:(IntKind.i64.wrap (1*2^min (l0.length:Int).toNat 64))=q6:=qE;have tH:(l0.length:Int)≤64→(IntKind.i64.wrap (1*2^(l0.length:Int).toNat))=q6:=aEy qE;have zH:(IntKind.i64.wrap (1*2^min l0.length 64))=q6:=tI;have zG:(l0.length:Int)≤64→(IntKind.i64.wrap (1*2^l0.length))=q6:=tH;(have NM:(IntKind.i64.wrap (2^min l0.length 64))=q6:=by have h_:=zH;rw[Int.one_mul]at h_;exact h_);(have NL:(l0.length:Int)≤64→(IntKind.i64.wrap (2^l0.length))=q6:=fun hle_=>by have h_:=zG hle_;rw[Int.one_mul]at h_;exact h_);(have NK:(IntKind.i64.wrap (2^min (l0.length:Int).toNat 64))=q6:=by have h_:=tI;rw[Int.one_mul]at h_;exact h_);(have NJ:(l0.length:Int)≤64→(IntKind.i64.wrap (2^(l0.length:Int).toNat))=q6:=fun hle_=>by have h_:=tH hle_;rw[Int.one_mul]at h_;exact h_);have NH:(wrap64 (1*2^min (l0.length:Int).toNat 64))=q6:=(aE7 _).symm.trans tI;(have NI:(l0.length:Int)≤64→(wrap64 (1*2^(l0.length:Int).toNat))=q6:=fun h_=>(aE7 _).symm.trans (tH h_));obtain⟨aW,A50,H⟩:=zO_ H;(try dsimp only at H);have A5:=zK_ A50;clear A50;obtain⟨dT,A70,H⟩:=zO_ H;(try dsimp only at H);have A7:=zK_ A70;clear A70;obtain rfl:=Option.some.inj H;go_enter Try.func120,Try.ntmps120;(try go_wp2_with (first|((with_reducible refine aAb (f:=143) rfl ?_);refine aBd (some 4) rfl rfl Try.func143 (by kernel_rfl) rfl #[.slice A0 l0.length c0] rfl zz3 ?_;(with_reducible refine(aBh.calls k _ _ l0 true _ ?side1 ?side2 A2.out).mono ?_);(case side1=>exact aTg);(case side2=>exact HC0.out);rintro e w' ⟨rfl,⟨nd,rfl⟩⟩;refine⟨_,rfl,?_⟩)));replace HB:=zK_ (aAs (aAj HB.out nd));refine aE5 (n:=12) (S:=fun w'=>True) (ds:=[]) (zM 12 0) (by kernel_rfl) rfl rfl trivial (fun hHeld=>?_);refine aDc aBl.tab3 aBl.bits3 (fun HT_ HW_=>?_);generalize (w.drewN nd).drew=w8 at HB hHeld ⊢;refine zQ 0 6 (zM 12 1) ?_
 refine zQ 1 7 (zM 12 3) ?_
 refine zQ 2 8 (zM 12 7) ?_
 refine zQ 3 9 (zM 12 15) ?_
 refine zQ 4 10 (zM 12 31) ?_
 refine zQ 6 12 (zM 12 95) ?_
 refine zQ 7 13 (zM 12 223) ?_
 refine zQ 8 14 (zM 12 479) ?_
 refine zQ 9 15 (zM 12 991) ?_
 refine aFz (i:=5) (N:=some 11) (zM 12 1023) rfl rfl (aDo HT_.out (by kernel_rfl)) (by decide) (fun K hK=>?_);refine aF2 Try.func145 (by kernel_rfl) rfl #[.int .i64 (wrap64 ((q6)-1))] (by rfl) rfl rfl (by(try simp only[List.map_toArray,List.map_cons,List.map_nil]);first|done|(simp only[qE];rfl)|rfl|(simp only[List.length_drop,List.length_take];rfl)) ?_;(with_reducible refine(aBn.calls k (wrap64 ((q6)-1)) aW _ A5.out).mono ?_);rintro e w9 ⟨v103,rfl,ho0,hb⟩;refine⟨_,rfl,?_⟩;have n_:=zA2 (Kd.R_lower ho0 (aAd zz2)) (aA2 zz2 hb);clear HB;obtain⟨dB,HB⟩:=n_;clear ho0 hb;obtain⟨Ao10,co10,vX⟩:=Kd.R_slice dB.out;(first|subst vX|(injection vX with f1_ f2_ f3_;have f4_:=f1_.symm;have f5_:=f3_.symm;clear f1_ f2_ f3_;subst f4_;subst f5_));refine hK.out _ _ trivial (fun hHeld=>?_);clear hK K;refine aDr (a':=?_) ?_ ?_;rotate_left
 ·show Act.put _ (some 11) _=_;exact zzS
 refine aFz (i:=10) (N:=some 16) (zM 12 2047) rfl rfl (aDo HT_.out (by kernel_rfl)) (by decide) (fun K hK=>?_);refine aF2 Try.func144 (by kernel_rfl) rfl #[.slice A0 l0.length c0,.slice Ao10 aW.length co10,.int .i64 (wrap64 ((q6)-1))] (by rfl) rfl rfl (by(try simp only[List.map_toArray,List.map_cons,List.map_nil]);first|done|(simp only[qE];rfl)|rfl|(simp only[List.length_drop,List.length_take];rfl)) ?_;(with_reducible refine(aAm.calls k _ _ l0 _ _ aW (wrap64 ((q6)-1)) dT _ ?side1 ?side2 ?side3 ?side4 A7.out).mono ?_);(case side1=>exact aVt);(case side2=>exact HC0.out);(case side3=>exact aRo);(case side4=>exact(Kd.R_reads' dB.out).2.1);rintro e w11 ⟨rfl,hb⟩;refine⟨_,rfl,?_⟩;have n_:=zA2 (Kd.R_below aO5 hb) (aA2 zz2 hb);clear dB HB;obtain⟨dB,HB⟩:=n_;clear hb;refine hK.out _ _ trivial (fun hHeld=>?_);clear hK K;refine aDr (a':=?_) ?_ ?_;rotate_left
 ·show Act.put _ (some 16) _=_;exact zzS
 refine zQ 11 2 (zM 12 4095) ?_
 refine aEq (aDy HT_.out (by kernel_rfl)) ?_;(try go_wp2);go_ret;exact⟨by first|rfl|(simp[aCm,aCl]<;>rfl)|(simp only[← qE];first|rfl|(simp[aCm,aCl]<;>rfl))|(simp[*,aCm,aCl]<;>rfl),zz2⟩
mutual
def aAv.j0:Nat→Int→Bool→Int→List (S57)→Option (Int)
 | 0,_,_,_,_=>none
 | k+1,x1,mW,aT,aM=>if mW=true then(some 0) else(aAv.l0 k x1 0 aM (aM.length:Int) 0)
def aAv.l0:Nat→Int→Int→List (S57)→Int→Int→Option (Int)
 | 0,_,_,_,_,_=>none
 | k+1,x1,x5,lZ,lR,rB=>if rB<lR then(if 0≤rB then(if rB<(lZ.length:Int) then(if((aA4 lZ rB).f0)=x1 then(aAv.l0 k x1 (wrap64 (x5+1)) lZ lR (wrap64 (rB+1))) else(if((aA4 lZ rB).f1)=x1 then(aAv.l0 k x1 (wrap64 (x5+1)) lZ lR (wrap64 (rB+1))) else(aAv.l0 k x1 x5 lZ lR (wrap64 (rB+1))))) else(none)) else(none)) else(some x5)
end
def aAv.f (k:Nat) (aD:Int) (aC:List (S57)) (a1:Int):Option (Int):=if a1<0 then(aAv.j0 k a1 true aD aC) else(aAv.j0 k a1 (decide (a1≥aD)) aD aC)
theorem aAv.mono_l:∀ k,(∀ y0 y1 y2 y3,LeO (aAv.j0 k y0 y1 y2 y3) (aAv.j0 (k+1) y0 y1 y2 y3))∧(∀ y0 y1 y2 y3 y4,LeO (aAv.l0 k y0 y1 y2 y3 y4) (aAv.l0 (k+1) y0 y1 y2 y3 y4))
 | 0=>⟨fun _ _ _ _ r h=>by simp[aAv.j0]at h,fun _ _ _ _ _ r h=>by simp[aAv.l0]at h⟩
 | k+1=>by
  obtain⟨ih0,ih1⟩:=aAv.mono_l k
  refine⟨?_,?_⟩
  ·intro y0 y1 y2 y3
   unfold aAv.j0
   exact zm1
  ·intro y0 y1 y2 y3 y4
   unfold aAv.l0
   exact zm1
theorem aAv.mono:∀ a0 a1 a2 k,LeO (aAv.f k a0 a1 a2) (aAv.f (k+1) a0 a1 a2):=by
 intro a0 a1 a2 k;obtain⟨ih0,ih1⟩:=aAv.mono_l k;unfold aAv.f;exact zm1
theorem aAv.calls (k:Nat) (aD:Int) (aI:Option Addr) (aG:Nat) (aC:List (S57)) (a1:Int) (r:Int) (w:World) (hr0_1:Kd.C k57 w aI aC.length aC) (hc0_1:aC.length≤aG) (h:aAv.f k aD aC a1=some r) :
  Calls Try.prog 75 #[.agg #[.int .i64 aD,.slice aI aC.length aG],.int .i64 a1] w fun e w'=>e = .returned (.int .i64 r)∧Below w.heap.size w w':=by
 have hu25:=Try.underlying25;have hu57:=Try.underlying57;have b5:=zK_ hr0_1;have bT:=zK_ hc0_1;clear hr0_1 hc0_1;have HB:=zK_ (Below.refl w.heap.size w);have H:(if a1<0 then(aAv.j0 k a1 true aD aC) else(aAv.j0 k a1 (decide (a1≥aD)) aD aC))=some r:=h;clear h;have HC3:=zK_ H;clear H;go_enter Try.func75,Try.ntmps75;(go_upto_region 1 with (first|((with_reducible refine aAn (N:=2) rfl ?_);refine aAl ?hg (N:=2) ?hd (cs:=#[.int .i64 aD,.slice aI aC.length aG]) (t:=25) ?hr ?_;(case hd=>rfl);(case hg=>rfl);(case hr=>exact aCp);intro aE hg w4 hbox hb;have n_:=zA4 (aA2 zz2 hb) hbox (aDi:w.heap.size≤aE) (aDi:w.heap.size≤aE);clear HB;obtain⟨HB,aA,GW101,GE101⟩:=n_;clear hb hbox hg)));(try simp only[Act.put,List.setIfInBounds_toArray,List.set_cons_zero,List.set_cons_succ]);go_cut [15] (fun v15 wc=>∃ (kq:Nat) (rR:Bool),v15 = .bool rR∧Aside0 (aAv.j0 kq a1 rR aD aC=some r)∧Aside0 (kq≤k)∧Aside0 (wc.heap[aE]? = some (.cells #[.int .i64 aD,(.slice aI aC.length aG)] 25 (0,0)))∧Aside0 (Below w.heap.size w wc))
 case first =>
  have H:=HC3.out;clear HC3;by_cases c5:a1<0
  ·rw[if_pos c5]at H;have f7:=decide_eq_true c5;clear c5;(first|rw[f7]|(simp only[aE7,aHv];rw[f7])|skip);have H':=zK_ H;clear H;go_wp2;(go_meet);case rel=>exact⟨_,(true),zz6,H',⟨by first|omega|exact Nat.le_refl _⟩,⟨zz0⟩,⟨zz1⟩⟩
  rw[if_neg c5]at H;have f7:=decide_eq_false c5;clear c5;(first|rw[f7]|(simp only[aE7,aHv];rw[f7])|skip);have H':=zK_ H;clear H;have jT:=aC7 aA;have jS:=aC6 aA;have jR:=aA0 aA.out 0;have jQ:=aA0 aA.out 1;go_wp2;(go_meet);case rel=>exact⟨_,(decide (a1≥aD)),zz6,H',⟨by first|omega|exact Nat.le_refl _⟩,⟨zz0⟩,⟨zz1⟩⟩
 case rest =>
  clear HC3;(try clear p2);(try clear c5);(try clear f7);(try clear jT);(try clear jS);(try clear jR);(try clear jQ);obtain⟨kq,rR,rfl,HA,HJ2,aA,HB⟩:=hcut
  cases kq with
  | zero=>exact absurd HA.out (by simp[aAv.j0])
  | succ kj2 =>
   have H:=HA.out;clear HA;simp only[aAv.j0]at H;by_cases c7:rR=true
   ·subst c7;rw[if_pos rfl]at H;obtain rfl:=Option.some.inj H;go_wp2;go_ret;exact⟨zz9,zz1⟩
   replace c7:=Bool.eq_false_iff.mpr c7;subst c7;rw[if_neg (show ¬ (false=true) by decide)]at H;have H':=zK_ H;clear H;have kR:=aC7 aA;have kQ:=aC6 aA;have kP:=aA0 aA.out 0;have kO:=aA0 aA.out 1;go_wp2;(go_loopg [5,19] kj2 (fun kq v5 v19 w'=>∃ (cE:Int) (fD:Int),v5 = .int .i64 cE∧v19 = .int .i64 fD∧Aside0 (aAv.l0 kq a1 cE aC (aC.length:Int) fD=some r)∧Aside0 (kq≤kj2)∧Aside0 (w'.heap[aE]? = some (.cells #[.int .i64 aD,(.slice aI aC.length aG)] 25 (0,0)))∧Aside0 (Below w.heap.size w w')));case atStart=>exact⟨(0),(0),zz6,zz6,H',⟨Nat.le_refl _⟩,⟨zz0⟩,⟨zz1⟩⟩
   case round =>
    clear H';(try clear p2);(try clear c5);(try clear f7);(try clear c7);(try clear jT);(try clear jS);(try clear kR);(try clear kQ);(try clear jR);(try clear jQ);(try clear kP);(try clear kO);(try clear p2);obtain⟨cE,fD,rfl,rfl,HA,HK2,aA,HB⟩:=hrel
    cases gk with
    | zero=>exact absurd HA.out (by simp[aAv.l0])
    | succ k2 =>
     have H:=HA.out;clear HA;simp only[aAv.l0]at H;by_cases c9:fD<(aC.length:Int);rotate_left
     ·rw[if_neg c9]at H;have iZ:=decide_eq_false c9;clear c9;obtain rfl:=Option.some.inj H;go_wp2;go_ret;exact⟨zz9,zz1⟩
     rw[if_pos c9]at H;have iZ:=decide_eq_true c9;clear c9;by_cases c10:0≤fD;rotate_left
     ·rw[if_neg c10]at H;exact absurd H (by simp)
     rw[if_pos c10]at H;have g3:=decide_eq_true c10;clear c10;by_cases c11:fD<(aC.length:Int);rotate_left
     ·rw[if_neg c11]at H;exact absurd H (by simp)
     rw[if_pos c11]at H;have nL:=decide_eq_true c11;clear c11;by_cases c12:((aA4 aC fD).f0)=a1
     ·rw[if_pos c12]at H;have nE:(((aA4 aC fD).f0)==a1)=true:=beq_iff_eq.mpr c12;have qS:(((aA4 aC fD).f0) != a1)=false:=bne_eq_false_iff_eq.mpr c12;clear c12;have H':=zK_ H;clear H;have p102:0≤(fD:Int):=of_decide_eq_true zz4;have q102:fD<(aC.length:Int):=of_decide_eq_true zz4;obtain⟨fL,e102,bP,dO⟩:=aCo b5.out fD p102 q102;cases e102;replace bP:=(HB.out.cell (World.block_lt_of_cell? w _ bP)).trans bP;replace dO:=(HB.out.cell (World.block_lt_of_cell? w _ dO)).trans dO;replace p102:=eq_true p102;replace q102:=eq_true q102;(go_wp2_with (first|((with_reducible refine aAn (N:=7) rfl ?_);refine aAl ?hg (N:=7) ?hd (cs:=#[.int .i64 0,.int .i64 0]) (t:=57) ?hr ?_;(case hd=>rfl);(case hg=>rfl);(case hr=>exact aCp);intro eG hg w13 hbox hb;have n_:=zA7 (aA3 (g:=aE) (o:=.cells #[.int .i64 aD,.slice (some fL) aC.length aG] 25 (0,0)) zz0 hb) (aA2 zz1 hb) hbox (aEg:w.heap.size≤eG) (aEg:w.heap.size≤eG) (aVo:aE≠eG) (aVn:eG≠aE);clear aA HB;obtain⟨aA,HB,eR,GW103,GE103,eO,fR⟩:=n_;clear hb hbox hg;have rY:=fR.out;have rW:=eO.out;have d8:=aC7 eR;have d7:=aC6 eR;have d4:=aA0 eR.out 0;have d3:=aA0 eR.out 1)));go_roundg k2;(case measure=>have:=HJ2.out;have:=HK2.out;omega);case rel=>exact⟨(wrap64 (cE+1)),(wrap64 (fD+1)),zz6,zz6,H',⟨by have:=HJ2.out;have:=HK2.out;omega⟩,⟨aVy⟩,⟨aVw⟩⟩
     rw[if_neg c12]at H;have nE:(((aA4 aC fD).f0)==a1)=false:=beq_eq_false_iff_ne.mpr c12;have qS:(((aA4 aC fD).f0) != a1)=true:=bne_iff_ne.mpr c12;by_cases c16:((aA4 aC fD).f1)=a1;rotate_left
     ·rw[if_neg c16]at H;have nC:(((aA4 aC fD).f1)==a1)=false:=beq_eq_false_iff_ne.mpr c16;have sQ:(((aA4 aC fD).f1) != a1)=true:=bne_iff_ne.mpr c16;have H':=zK_ H;clear H;have p102:0≤(fD:Int):=of_decide_eq_true zz4;have q102:fD<(aC.length:Int):=of_decide_eq_true zz4;obtain⟨fL,e102,bP,dO⟩:=aCo b5.out fD p102 q102;cases e102;replace bP:=(HB.out.cell (World.block_lt_of_cell? w _ bP)).trans bP;replace dO:=(HB.out.cell (World.block_lt_of_cell? w _ dO)).trans dO;replace p102:=eq_true p102;replace q102:=eq_true q102;(go_wp2_with (first|((with_reducible refine aAn (N:=7) rfl ?_);refine aAl ?hg (N:=7) ?hd (cs:=#[.int .i64 0,.int .i64 0]) (t:=57) ?hr ?_;(case hd=>rfl);(case hg=>rfl);(case hr=>exact aCp);intro eG hg w20 hbox hb;have n_:=zA7 (aA3 (g:=aE) (o:=.cells #[.int .i64 aD,.slice (some fL) aC.length aG] 25 (0,0)) zz0 hb) (aA2 zz1 hb) hbox (aEg:w.heap.size≤eG) (aEg:w.heap.size≤eG) (aVo:aE≠eG) (aVn:eG≠aE);clear aA HB;obtain⟨aA,HB,eR,GW103,GE103,eO,fR⟩:=n_;clear hb hbox hg;have zE:=fR.out;have yO:=eO.out;have kI:=aC7 eR;have kH:=aC6 eR;have kA:=aA0 eR.out 0;have j9:=aA0 eR.out 1)));go_roundg k2;(case measure=>have:=HJ2.out;have:=HK2.out;omega);case rel=>exact⟨(cE),(wrap64 (fD+1)),zz6,zz6,H',⟨by have:=HJ2.out;have:=HK2.out;omega⟩,⟨aVy⟩,⟨aVw⟩⟩
     rw[if_pos c16]at H;have nC:(((aA4 aC fD).f1)==a1)=true:=beq_iff_eq.mpr c16;have sQ:(((aA4 aC fD).f1) != a1)=false:=bne_eq_false_iff_eq.mpr c16;clear c16;have H':=zK_ H;clear H;have p102:0≤(fD:Int):=of_decide_eq_true zz4;have q102:fD<(aC.length:Int):=of_decide_eq_true zz4;obtain⟨fL,e102,bP,dO⟩:=aCo b5.out fD p102 q102;cases e102;replace bP:=(HB.out.cell (World.block_lt_of_cell? w _ bP)).trans bP;replace dO:=(HB.out.cell (World.block_lt_of_cell? w _ dO)).trans dO;replace p102:=eq_true p102;replace q102:=eq_true q102;(go_wp2_with (first|((with_reducible refine aAn (N:=7) rfl ?_);refine aAl ?hg (N:=7) ?hd (cs:=#[.int .i64 0,.int .i64 0]) (t:=57) ?hr ?_;(case hd=>rfl);(case hg=>rfl);(case hr=>exact aCp);intro eG hg w17 hbox hb;have n_:=zA7 (aA3 (g:=aE) (o:=.cells #[.int .i64 aD,.slice (some fL) aC.length aG] 25 (0,0)) zz0 hb) (aA2 zz1 hb) hbox (aEg:w.heap.size≤eG) (aEg:w.heap.size≤eG) (aVo:aE≠eG) (aVn:eG≠aE);clear aA HB;obtain⟨aA,HB,eR,GW103,GE103,eO,fR⟩:=n_;clear hb hbox hg;have rX:=fR.out;have rV:=eO.out;have lP:=aC7 eR;have lO:=aC6 eR;have lJ:=aA0 eR.out 0;have lI:=aA0 eR.out 1)));go_roundg k2;(case measure=>have:=HJ2.out;have:=HK2.out;omega);case rel=>exact⟨(wrap64 (cE+1)),(wrap64 (fD+1)),zz6,zz6,H',⟨by have:=HJ2.out;have:=HK2.out;omega⟩,⟨aVy⟩,⟨aVw⟩⟩
end Go.Proofs.Ytnbljcgdgblgoaa.P
end
section
namespace Go.Proofs.Ytnbljcgdgblgoaa.P
open Go.RowKit Go.Proofs.YtnbljcgdgblgoaaW.PrintWords Go.Proofs.YtnbljcgdgblgoaaW.PrintLast Go.Proofs.YtnbljcgdgblgoaaW.PrintMore
attribute [local go_sem] aCt aCr aDb aDa aCa aC9 aCs aCq
mutual
def aAr.l0:Nat→List (List Int)→Int→Int→List (S57)→Option ((List (List Int)))
 | 0,_,_,_,_=>none
 | k+1,x3,x4,aT,aM=>if x4<aT then(if 0≤aT then(if(aT:Int).toNat≤35184372088832 then((some (List.replicate (aT:Int).toNat 0:List Int)).bind fun l5=>(aAr.l1 k x3 x4 l5 (l5.length:Int) 0 aT aM)) else(none)) else(none)) else(some x3)
def aAr.l1:Nat→List (List Int)→Int→List Int→Int→Int→Int→List (S57)→Option ((List (List Int)))
 | 0,_,_,_,_,_,_,_=>none
 | k+1,x3,x4,x5,wZ,oP,aT,aM=>if oP<wZ then((aAf.f k aT aM x4 oP).bind fun cJ=>(if 0≤oP then(if oP<(x5.length:Int) then(aAr.l1 k x3 x4 (x5.set (oP:Int).toNat (wrap64 (-cJ))) wZ (wrap64 (oP+1)) aT aM) else(none)) else(none))) else((aAv.f k aT aM x4).bind fun f5=>(if 0≤x4 then(if x4<(x5.length:Int) then(if x3.length<5864062014805 then(aAr.l0 k (x3++[(x5.set (x4:Int).toNat f5)]) (wrap64 (x4+1)) aT aM) else(none)) else(none)) else(none)))
end
def aAr.f (k:Nat) (aD:Int) (aC:List (S57)):Option ((List (List Int))):=(aC2.f aD aC).bind fun aW=>(if aW=true then(aAr.l0 k ([]:List (List Int)) 0 aD aC) else(some ([]:List (List Int))))
theorem aAr.mono_l:∀ k,(∀ y0 y1 y2 y3,LeO (aAr.l0 k y0 y1 y2 y3) (aAr.l0 (k+1) y0 y1 y2 y3))∧(∀ y0 y1 y2 y3 y4 y5 y6,LeO (aAr.l1 k y0 y1 y2 y3 y4 y5 y6) (aAr.l1 (k+1) y0 y1 y2 y3 y4 y5 y6))
 | 0=>⟨fun _ _ _ _ r h=>by simp[aAr.l0]at h,fun _ _ _ _ _ _ _ r h=>by simp[aAr.l1]at h⟩
 | k+1=>by
  obtain⟨ih0,ih1⟩:=aAr.mono_l k
  refine⟨?_,?_⟩
  ·intro y0 y1 y2 y3
   unfold aAr.l0
   exact aYw
  ·intro y0 y1 y2 y3 y4 y5 y6
   unfold aAr.l1
   exact aYw
theorem aAr.mono:∀ a0 a1 k,LeO (aAr.f k a0 a1) (aAr.f (k+1) a0 a1):=by
 intro a0 a1 k;obtain⟨ih0,ih1⟩:=aAr.mono_l k;unfold aAr.f;exact aYw
theorem aAr.calls (k:Nat) (aD:Int) (aI:Option Addr) (aG:Nat) (aC:List (S57)) (r:List (List Int)) (w:World) (hr0_1:Kd.C k57 w aI aC.length aC) (hc0_1:aC.length≤aG) (h:aAr.f k aD aC=some r) :
  Calls Try.prog 146 #[.agg #[.int .i64 aD,.slice aI aC.length aG]] w fun e w'=>∃ v0_:Value,e = .returned (v0_)∧Kd.S (Kd.slice 3 (Kd.int .i64)) 26 w' w.heap.size (fun _=>True) v0_ r∧Below w.heap.size w w':=by
 have hu25:=Try.underlying25;have b5:=zK_ hr0_1;have bT:=zK_ hc0_1;clear hr0_1 hc0_1;have HB:=zK_ (Below.refl w.heap.size w);have H:((aC2.f aD aC).bind fun aW=>(if aW=true then(aAr.l0 k ([]:List (List Int)) 0 aD aC) else(some ([]:List (List Int)))))=some r:=h;clear h;obtain⟨aW,A20,H⟩:=zO_ H;(try dsimp only at H);have A2:=zK_ A20;clear A20;by_cases c3:aW=true;rotate_left
 ·replace c3:=Bool.eq_false_iff.mpr c3;subst c3;rw[if_neg (show ¬ (false=true) by decide)]at H;obtain rfl:=Option.some.inj H;go_enter Try.func146,Try.ntmps146;(go_wp2_with (first|((with_reducible refine aAn (N:=1) rfl ?_);refine aAl ?hg (N:=1) ?hd (cs:=#[.int .i64 aD,.slice aI aC.length aG]) (t:=25) ?hr ?_;(case hd=>rfl);(case hg=>rfl);(case hr=>exact aCp);intro aE hg w34 hbox hb;have n_:=zA4 (aA2 zz2 hb) hbox (aDi:w.heap.size≤aE) (aDi:w.heap.size≤aE);clear HB;obtain⟨HB,aA,GW101,GE101⟩:=n_;clear hb hbox hg;have kE:=aC7 aA;have kD:=aC6 aA;have j6:=aA0 aA.out 0;have j5:=aA0 aA.out 1)|((with_reducible refine aAb (f:=50) rfl ?_);refine aBd (some 8) rfl rfl Try.func50 (by kernel_rfl) rfl #[.agg #[.int .i64 aD,.slice aI aC.length aG]] rfl zz3 ?_;(with_reducible refine(aC2.calls aD _ _ aC false _ ?side1 ?side2 A2.out).mono ?_);(case side1=>exact zz5);(case side2=>exact bT.out);rintro e w36 ⟨rfl,hb⟩;refine⟨_,rfl,?_⟩;have n_:=zA2 (aA3 (g:=aE) (o:=.cells #[.int .i64 aD,.slice aI aC.length aG] 25 (0,0)) zz0 hb) (aA2 zz1 hb);clear aA HB;obtain⟨aA,HB⟩:=n_;clear hb)));go_ret;exact⟨_,zz9,aRm,zz1⟩
 subst c3;rw[if_pos rfl]at H;have H':=zK_ H;clear H;go_enter Try.func146,Try.ntmps146;(go_wp2_with (first|((with_reducible refine aAn (N:=1) rfl ?_);refine aAl ?hg (N:=1) ?hd (cs:=#[.int .i64 aD,.slice aI aC.length aG]) (t:=25) ?hr ?_;(case hd=>rfl);(case hg=>rfl);(case hr=>exact aCp);intro aE hg w4 hbox hb;have n_:=zA4 (aA2 zz2 hb) hbox (aDi:w.heap.size≤aE) (aDi:w.heap.size≤aE);clear HB;obtain⟨HB,aA,GW101,GE101⟩:=n_;clear hb hbox hg;have lL:=aC7 aA;have lK:=aC6 aA;have l7:=aA0 aA.out 0;have lF:=aA0 aA.out 1)|((with_reducible refine aAb (f:=50) rfl ?_);refine aBd (some 8) rfl rfl Try.func50 (by kernel_rfl) rfl #[.agg #[.int .i64 aD,.slice aI aC.length aG]] rfl zz3 ?_;(with_reducible refine(aC2.calls aD _ _ aC true _ ?side1 ?side2 A2.out).mono ?_);(case side1=>exact zz5);(case side2=>exact bT.out);rintro e w6 ⟨rfl,hb⟩;refine⟨_,rfl,?_⟩;have n_:=zA2 (aA3 (g:=aE) (o:=.cells #[.int .i64 aD,.slice aI aC.length aG] 25 (0,0)) zz0 hb) (aA2 zz1 hb);clear aA HB;obtain⟨aA,HB⟩:=n_;clear hb)));(go_loopg [3,4] k (fun kq v3 v4 w'=>∃ (dS:List (List Int)) (bF:Int),v4 = .int .i64 bF∧Aside0 (aAr.l0 kq dS bF aD aC=some r)∧Aside0 (kq≤k)∧Aside0 (Kd.S (Kd.slice 3 (Kd.int .i64)) 26 w' w.heap.size (fun _=>True) v3 dS)∧Aside0 (w'.heap[aE]? = some (.cells #[.int .i64 aD,(.slice aI aC.length aG)] 25 (0,0)))∧Aside0 (Below w.heap.size w w')));case atStart=>exact⟨(([]:List (List Int))),(0),zz6,H',⟨Nat.le_refl _⟩,⟨aRm⟩,⟨zz0⟩,⟨zz1⟩⟩
 case round =>
  clear H';(try clear c1);(try clear p2);(try clear c3);(try clear c5);(try clear lL);(try clear lK);(try clear l7);(try clear lF);obtain⟨dS,bF,rfl,HA,HK1,bU,aA,HB⟩:=hrel
  cases gk with
  | zero=>exact absurd HA.out (by simp[aAr.l0])
  | succ k1 =>
   have H:=HA.out;clear HA;simp only[aAr.l0]at H;by_cases c7:bF<aD;rotate_left
   ·rw[if_neg c7]at H;have f6:=decide_eq_false c7;clear c7;obtain rfl:=Option.some.inj H;have sJ:=aC7 aA;have sI:=aC6 aA;have sB:=aA0 aA.out 0;have sA:=aA0 aA.out 1;go_wp2;go_ret;exact⟨_,zz9,by(with_reducible repeat(first|apply Kd.S_alloc|apply Kd.S_drewN|apply Kd.S_drew));exact bU.out,zz1⟩
   rw[if_pos c7]at H;have f6:=decide_eq_true c7;clear c7;by_cases c8:0≤aD;rotate_left
   ·rw[if_neg c8]at H;exact absurd H (by simp)
   rw[if_pos c8]at H;have iH:=eq_true c8;have vY:decide (0≤aD)=true:=decide_eq_true c8;clear c8;by_cases c9:(aD:Int).toNat≤35184372088832;rotate_left
   ·rw[if_neg c9]at H;exact absurd H (by simp)
   rw[if_pos c9]at H;have iZ:=eq_true c9;have xI:decide ((aD:Int).toNat≤35184372088832)=true:=decide_eq_true c9;clear c9;obtain⟨l5,hy_⟩:∃ y_:List Int,y_=(List.replicate (aD:Int).toNat 0):=⟨_,rfl⟩;(replace H:(aAr.l1 k1 dS bF l5 (l5.length:Int) 0 aD aC)=some r:=zzY);have qZ:=zK_ hy_;clear hy_;have H':=zK_ H;clear H;have eB:=aC7 aA;have d9:=aC6 aA;have d6:=aA0 aA.out 0;have d5:=aA0 aA.out 1;(go_wp2_with (first|((with_reducible refine aAn (N:=18) rfl ?_);refine Kd.R_make (Kd.int .i64) _ 3 rfl (N:=18) rfl 26 _ _ rfl aD rfl rfl Try.underlying26 (.int .i64 0) 8 aDz rfl (by decide) (by omega) 0 (ok:=fun _=>True) (okp:=fun _=>True) rfl (fun _ hk=>hk) trivial (of_decide_eq_true zz4) (Nat.le_trans (Nat.mul_le_mul_right _ (of_decide_eq_true zz4:aD.toNat≤35184372088832)) (by omega)) (Below.refl _ _) (Nat.le_refl _) ?_;intro v104 w11 ho12 hb hg_ hnew_;clear hg_ hnew_;(first|rw[← qZ.out]at ho12|(simp only[Int.reduceToNat]at ho12;rw[← qZ.out]at ho12));have n_:=zA4 (Kd.S_elder' aO7 (Kd.R_base ho12) hb) (Kd.R_lower ho12 (aAd zz1)) (aA3 (g:=aE) (o:=.cells #[.int .i64 aD,.slice aI aC.length aG] 25 (0,0)) zz0 hb) (aA2 zz1 hb);clear bU aA HB;obtain⟨bU,gY,aA,HB⟩:=n_;clear hb ho12;obtain⟨Ao13,co13,vW⟩:=Kd.R_slice gY.out;subst vW)));(go_loopg [21] k1 (fun kq v21 w'=>∃ (cE:List Int) (iU:Int),v21 = .int .i64 iU∧Aside0 (aAr.l1 kq dS bF cE (l5.length:Int) iU aD aC=some r)∧Aside0 (kq≤k1)∧Aside0 (Kd.S (Kd.slice 3 (Kd.int .i64)) 26 w' w.heap.size (fun k_=>some k_≠((.slice Ao13 l5.length co13):Value).ownBlock) u3 dS)∧Aside0 (Kd.R (Kd.int .i64) 3 w' w.heap.size (fun _=>True) (.slice Ao13 l5.length co13) cE)∧Aside0 (w'.heap[aE]? = some (.cells #[.int .i64 aD,(.slice aI aC.length aG)] 25 (0,0)))∧Aside0 (Below w.heap.size w w')));case atStart=>exact⟨(l5),(0),zz6,H',⟨Nat.le_refl _⟩,⟨aRl⟩,⟨by(with_reducible repeat(first|apply Kd.R_alloc|apply Kd.R_drewN|apply Kd.R_drew));exact gY.out⟩,⟨zz0⟩,⟨zz1⟩⟩
   case round =>
    clear H';(try clear c1);(try clear p2);(try clear c3);(try clear c5);(try clear c7);(try clear f6);(try clear c8);(try clear iH);(try clear vY);(try clear c9);(try clear iZ);(try clear xI);(try clear eB);(try clear d9);(try clear lL);(try clear lK);(try clear d6);(try clear d5);(try clear l7);(try clear lF);(try clear p2);obtain⟨cE,iU,rfl,HA,HK2,bU,fF,aA,HB⟩:=hrel;have iD:=(Kd.R_reads' fF.out).1;rw[iD]at fF;(try simp only[iD]);(try simp only[iD]at aA);(try simp only[iD]at bU)
    cases gk with
    | zero=>exact absurd HA.out (by simp[aAr.l1])
    | succ k2 =>
     have H:=HA.out;clear HA;simp only[aAr.l1]at H;by_cases c14:iU<(l5.length:Int)
     ·rw[if_pos c14]at H;have lT:=decide_eq_true c14;(try(have l8:=lT;first|rw[iD]at l8|rw[← iD]at l8));clear c14;obtain⟨cJ,A150,H⟩:=zO_ H;(try dsimp only at H);have A15:=zK_ A150;clear A150;by_cases c16:0≤iU;rotate_left
      ·rw[if_neg c16]at H;exact absurd H (by simp)
      rw[if_pos c16]at H;have nC:=decide_eq_true c16;clear c16;by_cases c17:iU<(cE.length:Int);rotate_left
      ·rw[if_neg c17]at H;exact absurd H (by simp)
      rw[if_pos c17]at H;have oU:=decide_eq_true c17;(try(have qR:=oU;first|rw[iD]at qR|rw[← iD]at qR));clear c17;obtain⟨sU,hy_⟩:∃ y_:List Int,y_=(cE.set (iU:Int).toNat (wrap64 (-cJ))):=⟨_,rfl⟩;(replace H:(aAr.l1 k2 dS bF sU (l5.length:Int) (wrap64 (iU+1)) aD aC)=some r:=zzY);have uD:=zK_ hy_;clear hy_;have H':=zK_ H;clear H;have lP:=aC7 aA;have lO:=aC6 aA;have lJ:=aA0 aA.out 0;have lI:=aA0 aA.out 1;(go_wp2_with (first|((with_reducible refine aAb (f:=123) rfl ?_);refine aBd (some 29) rfl rfl Try.func123 (by kernel_rfl) rfl #[.agg #[.int .i64 aD,.slice aI aC.length aG],.int .i64 bF,.int .i64 iU] rfl zz3 ?_;(with_reducible refine(aAf.calls k2 aD _ _ aC bF iU cJ _ ?side1 ?side2 A15.out).mono ?_);(case side1=>exact zz5);(case side2=>exact bT.out);rintro e w20 ⟨rfl,hb⟩;refine⟨_,rfl,?_⟩;have n_:=zA4 (Kd.S_below aO7 hb) (Kd.R_below aTd hb) (aA3 (g:=aE) (o:=.cells #[.int .i64 aD,.slice aI aC.length aG] 25 (0,0)) zz0 hb) (aA2 zz1 hb);clear bU fF aA HB;obtain⟨bU,fF,aA,HB⟩:=n_;clear hb;have p18:0≤(iU:Int):=of_decide_eq_true zz4;have q18:(iU:Int)<((cE.length:Int):Int):=of_decide_eq_true zz4;obtain⟨go18,co18,CX,CO,gl18,cl18,HG18⟩:=Kd.R_form fF.out (by omega);(first|cases CX|(injection CX with ea_ en_ ec_;(first|subst ea_|(injection ea_ with ea_;subst ea_));subst ec_;clear en_));have K4:=zK_ CO;have OM:=zK_ HG18;clear CO gl18 HG18;obtain⟨GI,KC⟩:=Kd.R_celln 0 fF.out (iU:Int) p18 q18;replace p18:=eq_true p18;replace q18:=eq_true q18;obtain⟨hy21_,hz21_⟩:=Kd.R_celln 0 fF.out (iU:Int) (of_decide_eq_true zz4) (of_decide_eq_true zz4);have xP:=Kd.R_putg fF.out (iU:Int) (wrap64 (-cJ)))|((with_reducible refine aD4 (t:=3) (p:=31) rfl ?_);refine aCu (t:=3) (p:=31) (v:=?vo_w22) (w1:=(w20.setCell ⟨go18,(iU:Int).toNat,none⟩ (.int .i64 (wrap64 (-cJ))))) ?hg ?ho ?hn ?hr ?_;(case ho=>rfl);(case hg=>rfl);(case hn=>rfl);(case hr=>exact aCp);intro w22 hw;have hg:w20.grownBy w22 (some go18):=(by rw[hw];exact xP.2);have hp_:Kd.R (Kd.int .i64) 3 w22 w.heap.size (fun _=>True) (.slice (some ⟨go18,0,none⟩) cE.length co13) sU:=(by rw[hw,uD.out];exact xP.1);clear xP;have n_:=zA4 (Kd.S_after (v:=(.slice (some ⟨go18,0,none⟩) cE.length co13)) (v1:=(.slice (some ⟨go18,0,none⟩) cE.length co13)) (ok:=(fun _=>True)) aRn hg (.inl rfl)) hp_ (aAk (g:=aE) (o:=.cells #[.int .i64 aD,.slice aI aC.length aG] 25 (0,0)) zz0 hg (Kd.R_ne fF.out aA.out (by decide))) (by rw[hw];exact aAh (HB.out) K4.out:Below w.heap.size w w22);clear bU fF aA HB;obtain⟨bU,fF,aA,HB⟩:=n_;clear hg hw hp_)));(try simp only[← iD]);go_roundg k2;(case measure=>have:=HK1.out;have:=HK2.out;omega);case rel=>exact⟨(sU),(wrap64 (iU+1)),zz6,H',⟨aGi⟩,⟨by(try simp only[iD]);(with_reducible repeat(first|apply Kd.S_alloc|apply Kd.S_drewN|apply Kd.S_drew));exact Kd.S_mono bU.out (fun _ hk=>hk.2)⟩,⟨by(try simp only[iD]);(with_reducible repeat(first|apply Kd.R_alloc|apply Kd.R_drewN|apply Kd.R_drew));exact fF.out⟩,⟨by(try simp only[iD]);(with_reducible repeat(first|refine aA8 ?_ _|refine aA9 ?_|refine aA7 ?_ _));exact aA.out⟩,⟨zz1⟩⟩
     rw[if_neg c14]at H;have lT:=decide_eq_false c14;(try(have l8:=lT;first|rw[iD]at l8|rw[← iD]at l8));clear c14;obtain⟨f5,A230,H⟩:=zO_ H;(try dsimp only at H);have A23:=zK_ A230;clear A230;by_cases c24:0≤bF;rotate_left
     ·rw[if_neg c24]at H;exact absurd H (by simp)
     rw[if_pos c24]at H;have t6:=decide_eq_true c24;clear c24;by_cases c25:bF<(cE.length:Int);rotate_left
     ·rw[if_neg c25]at H;exact absurd H (by simp)
     rw[if_pos c25]at H;have wP:=decide_eq_true c25;(try(have qP:=wP;first|rw[iD]at qP|rw[← iD]at qP));clear c25;obtain⟨dD,hy_⟩:∃ y_:List Int,y_=(cE.set (bF:Int).toNat f5):=⟨_,rfl⟩;(replace H:(if dS.length<5864062014805 then(aAr.l0 k2 (dS++[dD]) (wrap64 (bF+1)) aD aC) else(none))=some r:=zzY);have jU:=zK_ hy_;clear hy_;by_cases c27:dS.length<5864062014805;rotate_left
     ·rw[if_neg c27]at H;exact absurd H (by simp)
     rw[if_pos c27]at H;have DY:=zK_ c27;clear c27;obtain⟨nO,hy_⟩:∃ y_:List (List Int),y_=(dS++[dD]):=⟨_,rfl⟩;(replace H:(aAr.l0 k2 nO (wrap64 (bF+1)) aD aC)=some r:=zzY);have qY:=zK_ hy_;clear hy_;have H':=zK_ H;clear H;have sL:=aC7 aA;have sK:=aC6 aA;have sD:=aA0 aA.out 0;have sC:=aA0 aA.out 1;(go_wp2_with (first|((with_reducible refine aAb (f:=75) rfl ?_);refine aBd (some 37) rfl rfl Try.func75 (by kernel_rfl) rfl #[.agg #[.int .i64 aD,.slice aI aC.length aG],.int .i64 bF] rfl zz3 ?_;(with_reducible refine(aAv.calls k2 aD _ _ aC bF f5 _ ?side1 ?side2 A23.out).mono ?_);(case side1=>exact zz5);(case side2=>exact bT.out);rintro e w29 ⟨rfl,hb⟩;refine⟨_,rfl,?_⟩;have n_:=zA4 (Kd.S_below aO7 hb) (Kd.R_below aTd hb) (aA3 (g:=aE) (o:=.cells #[.int .i64 aD,.slice aI aC.length aG] 25 (0,0)) zz0 hb) (aA2 zz1 hb);clear bU fF aA HB;obtain⟨bU,fF,aA,HB⟩:=n_;clear hb;have p26:0≤(bF:Int):=of_decide_eq_true zz4;have q26:(bF:Int)<((cE.length:Int):Int):=of_decide_eq_true zz4;obtain⟨go26,co26,CU,CN,gl26,cl26,HG26⟩:=Kd.R_form fF.out (by omega);(first|cases CU|(injection CU with ea_ en_ ec_;(first|subst ea_|(injection ea_ with ea_;subst ea_));subst ec_;clear en_));have K3:=zK_ CN;have OL:=zK_ HG26;clear CN gl26 HG26;obtain⟨GH,KB⟩:=Kd.R_celln 0 fF.out (bF:Int) p26 q26;replace p26:=eq_true p26;replace q26:=eq_true q26;obtain⟨hy30_,hz30_⟩:=Kd.R_celln 0 fF.out (bF:Int) (of_decide_eq_true zz4) (of_decide_eq_true zz4);have xO:=Kd.R_putg fF.out (bF:Int) f5)|((with_reducible refine aD4 (t:=3) (p:=38) rfl ?_);refine aCu (t:=3) (p:=38) (v:=?vo_w31) (w1:=(w29.setCell ⟨go26,(bF:Int).toNat,none⟩ (.int .i64 f5))) ?hg ?ho ?hn ?hr ?_;(case ho=>rfl);(case hg=>rfl);(case hn=>rfl);(case hr=>exact aCp);intro w31 hw;have hg:w29.grownBy w31 (some go26):=(by rw[hw];exact xO.2);have hp_:Kd.R (Kd.int .i64) 3 w31 w.heap.size (fun _=>True) (.slice (some ⟨go26,0,none⟩) cE.length co13) dD:=(by rw[hw,jU.out];exact xO.1);clear xO;have n_:=zA4 (Kd.S_after (v:=(.slice (some ⟨go26,0,none⟩) cE.length co13)) (v1:=(.slice (some ⟨go26,0,none⟩) cE.length co13)) (ok:=(fun _=>True)) aRn hg (.inl rfl)) hp_ (aAk (g:=aE) (o:=.cells #[.int .i64 aD,.slice aI aC.length aG] 25 (0,0)) zz0 hg (Kd.R_ne fF.out aA.out (by decide))) (by rw[hw];exact aAh (HB.out) K3.out:Below w.heap.size w w31);clear bU fF aA HB;obtain⟨bU,fF,aA,HB⟩:=n_;clear hg hw hp_)|((with_reducible refine aB4 (b:=.append) (xs:=#[.tmp 39,.tmp 41]) rfl ?_);at_builtin;refine Kd.S_append (Kd.slice 3 (Kd.int .i64)) (w0:=w) w.heap.size rfl (.tmp 39) (.tmp 41) 34 26 (.slice none 0 0) 24 rfl Try.underlying34 aGh rfl (by decide) (by omega) u3 dS dD [.slice (some ⟨go26,0,none⟩) cE.length co13] (fun _=>True) (fun k_=>some k_=(.slice (some ⟨go26,0,none⟩) cE.length co13:Value).ownBlock) rfl rfl ?aP (fun k_ hk_=>((Kd.R_mono (ok':=fun k_=>((fun _=>True)) k_∧some k_≠(u3:Value).ownBlock) (Kd.R_apart' (fF.out) (Kd.S_typed bU.out) (by decide)) (fun k_ hk=>⟨trivial,hk.2⟩))).1 k_ hk_.symm) ?aF ?aO ?aB ?aS ?aL ?_;(case aP=>exact Kd.M_row (Kd.R_mono (Kd.R_tight rfl (Kd.R_mono (ok':=fun k_=>((fun _=>True)) k_∧some k_≠(u3:Value).ownBlock) (Kd.R_apart' (fF.out) (Kd.S_typed bU.out) (by decide)) (fun k_ hk=>⟨trivial,hk.2⟩))) (fun _ h_=>h_)));(case aB=>exact zz1);(case aF=>exact(fun _ _=>trivial));(case aO=>exact(by(with_reducible repeat(first|apply Kd.S_alloc|apply Kd.S_drewN|apply Kd.S_drew));exact Kd.S_mono bU.out (fun k_ hk=>⟨trivial,fun e_=>hk.2 e_⟩)));(case aS=>exact(aAd zz1));(case aL=>have:=DY.out;omega);intro v111 w32 ho hb hg hat;rw[← qY.out]at ho;have n_:=zA3 (aAk (g:=aE) (o:=.cells #[.int .i64 aD,.slice aI aC.length aG] 25 (0,0)) zz0 hg (Kd.S_ne bU.out aA.out (by decide))) hb ho;clear aA HB bU fF;obtain⟨aA,HB,i6⟩:=n_;clear ho hb hg hat)));(try simp only[← iD]);go_roundg k2;(case measure=>have:=HK1.out;have:=HK2.out;omega);case rel=>exact⟨(nO),(wrap64 (bF+1)),zz6,H',⟨aGi⟩,⟨by(try simp only[iD]);(with_reducible repeat(first|apply Kd.S_alloc|apply Kd.S_drewN|apply Kd.S_drew));exact i6.out⟩,⟨by(try simp only[iD]);(with_reducible repeat(first|refine aA8 ?_ _|refine aA9 ?_|refine aA7 ?_ _));exact aA.out⟩,⟨zz1⟩⟩
end Go.Proofs.Ytnbljcgdgblgoaa.P
end
section
namespace Go.Proofs.Ytnbljcgdgblgoaa.Cf
open Go.RowKit Go.Proofs.YtnbljcgdgblgoaaW.PrintWords Go.Proofs.YtnbljcgdgblgoaaW.PrintLast Go.Proofs.YtnbljcgdgblgoaaW.PrintMore Go.Proofs.Ytnbljcgdgblgoaa.P
theorem step_append_own {P:Program} {ops:Array Oper} {o:Oper} {a:Act} {w:World} {K:Act→World→Prop} {Q:Exit→Act→World→Prop} {E:Prop}
  (hg:o.guard=none) (s x:Operand) (t:TypeId) (hop:o.op=Op.call { callee:=Callee.builtin Builtin.append,args:=#[s,x],argTypes:=#[t,t]})
  (base:Nat) (e:TypeId) (i:TypeInfo) (size:Nat) (h1:P.underlying t=some (.slice e)) (h2:P.info? e=some i) (h4:i.size=size)
  (g n cap:Nat) (xs:List Value) (hs:a.eval s = .slice (some ⟨g,0,none⟩) n cap) (hown:w.ownsRow base e size (.slice (some ⟨g,0,none⟩) n cap) n xs)
  (ad:Addr) (m c:Nat) (news:List Value) (hx:a.eval x = .slice (some ad) m c) (hn:news.length=m*size) (hc:∀ j u,news[j]? = some u→w.cell? (ad.add j)=some u) (h1c:∀ u∈news,u.oneCell'=true)
  (hroom:n+m≤cap)
  (hK:∀ w',w'.ownsRow base e size (.slice (some ⟨g,0,none⟩) (n+m) cap) (n+m) (xs++news)→w.grownBy w' (some g)→K (a.put o.dst (.slice (some ⟨g,0,none⟩) (n+m) cap)) w') :
  if Region.wanted o (yielded ops a.tmps)=true then Oper.wp P o a w K Q else E:=by
 have hw:Region.wanted o (yielded ops a.tmps)=true:=by simp[Region.wanted,hg]
 rw[if_pos hw]
 obtain⟨w',hrun,r1,r2⟩:=run_append_fits (P:=P) w base t o.type e i size h1 h2 h4 g n cap xs hown ad m c news hn hc h1c hroom
 unfold Oper.wp
 simp[execOp,hop,resolve,invoke,builtin,hs,hx,hrun,Result.andThen]
 exact hK w' r1 r2
theorem own_tail {base e size n:Nat} {cap g:Nat} {xs:List Value}:∀ (vs:List Value) (o:Nat) (w:World),w.ownsRow base e size (.slice (some ⟨g,0,none⟩) n cap) n xs→n*size≤o→o+vs.length≤cap*size →
  (w.setCells g o vs).ownsRow base e size (.slice (some ⟨g,0,none⟩) n cap) n xs∧w.grownBy (w.setCells g o vs) (some g)
 | [],o,w,h,_,_=>⟨h,World.grownBy.refl _ _⟩
 | v::vs,o,w,h,h1,h2=>by
  have h0:(w.setCell ⟨g,o,none⟩ v).ownsRow base e size (.slice (some ⟨g,0,none⟩) n cap) n xs:=by
   obtain⟨hl,hr⟩:=h
   refine⟨hl,?_⟩
   rcases hr with ⟨hv,_⟩|⟨g',cap',cur,hv,hb,hh,hn,hm,hs,ht⟩
   ·cases hv
   ·injection hv with ha _ hc
    injection ha with ha
    injection ha with ha
    subst ha
    subst hc
    refine .inr ⟨g,cap,cur.setIfInBounds o v,rfl,hb,aCd hh o v rfl,hn,hm,by rw[Array.size_setIfInBounds];exact hs,?_⟩
    rw[← ht,Array.toList_setIfInBounds,List.take_set_of_le h1]
  have hg:w.grownBy (w.setCell ⟨g,o,none⟩ v) (some g):=⟨rfl,rfl,rfl,by simp[World.setCell],fun k _ hk=>Below.heap_setCell w ⟨g,o,none⟩ v k (fun e=>hk (by rw[e]))⟩
  obtain⟨h3,h4⟩:=own_tail vs (o+1) _ h0 (by omega) (by rw[List.length_cons]at h2;omega)
  refine⟨h3,⟨h4.os.trans hg.os,h4.tape.trans hg.tape,h4.output.trans hg.output,Nat.le_trans hg.size h4.size,fun k hk hne=>?_⟩⟩
  rw[show w.setCells g o (v::vs)=(w.setCell ⟨g,o,none⟩ v).setCells g (o+1) vs from rfl,h4.block k (Nat.lt_of_lt_of_le hk hg.size) hne]
  exact hg.block k hk hne
end Go.Proofs.Ytnbljcgdgblgoaa.Cf
end
section
namespace Go.Proofs.Ytnbljcgdgblgoaa.P
open Go.RowKit Go.Proofs.YtnbljcgdgblgoaaW.PrintWords Go.Proofs.YtnbljcgdgblgoaaW.PrintLast Go.Proofs.YtnbljcgdgblgoaaW.PrintMore
attribute [local go_sem] aCt aCr aDb aDa aCa aC9 aCs aCq
def aD6.f (l0:List (Int)) (a1 a2:Int):Option (List (Int)):=if 0≤a1 then(if a1<(l0.length:Int) then(if a2=a1+1 then some (l0.eraseIdx a1.toNat) else none) else none) else none
theorem aD6.clear_ {P:Program} (W:World) {g o c:Nat} {t e ty:TypeId} {cur:Array Value} (ht:P.underlying t=some (.slice e)) (hv:∀ w,(zeroValue e).run P w = .ok (.int .i64 0) w) (hb:W.heap[g]? = some (.cells cur e (0,0))) (hl:o+1≤cur.size) :
  (Builtin.clear_ #[t] ty #[.slice (some ⟨g,o,none⟩) 1 c]).run P W = .ok (.tuple #[]) (W.setCells g o [.int .i64 0]):=by
 have hst:=run_storeCells_cells (P:=P) g o [.int .i64 0] 0 W (fun j hj=>by
  rw[blk_cell hb];(simp at hj ⊢);omega) (fun j hj=>aA0 hb _) (by intro v hv';simp at hv';rw[hv'];rfl)
 simp only[Nat.add_zero]at hst;(have hz:(Builtin.zeroCells (.int .i64 0:Value).cells 1).toList=[.int .i64 0]:=by simp[Builtin.zeroCells,Value.cells,List.range_succ]);simp[Builtin.clear_,run_underlying ht,hv,hz,hst]
theorem aD6.calls (P0_:Nat→Prop) (u9000_:Value) (l0:List (Int)) (a1 a2:Int) (r:List (Int)) (w0 w:World) (hB:Below w0.heap.size w0 w) (ho0:Kd.R (Kd.int .i64) 3 w w0.heap.size P0_ u9000_ l0) (h:aD6.f l0 a1 a2=some r) :
  Calls Try.prog 147 #[u9000_,.int .i64 a1,.int .i64 a2] w fun e w'=>∃ v0_:Value,e = .returned (v0_)∧Kd.R (Kd.int .i64) 3 w' w0.heap.size (fun k_=>(P0_ k_∨w.heap.size≤k_)) v0_ r∧Below w0.heap.size w0 w'∧Kept w w' (fun k_=>P0_ k_):=by
 unfold aD6.f at h;split at h
 ·split at h
  ·split at h
   ·rename_i h0 h1 h2;subst h2;obtain rfl:=Option.some.inj h;obtain⟨i,rfl⟩:=Int.eq_ofNat_of_zero_le h0;(have hi:i<l0.length:=by omega);clear h h0 h1;obtain⟨hk0,inner,ho,hr⟩:=ho0;have hil:inner.length=l0.length*1:=ho.1;rcases ho.2 with ⟨hv,hn⟩|⟨g,cap,cur,rfl,hbg,hh,hnc,hcm,hcs,htk⟩
    ·omega
    ·obtain⟨i0,hi0,hz0,hz1,hz2⟩:=info_parts aDz;(have hcells:∀ j u,inner[j]? = some u→w.cell? ⟨g,j,none⟩=some u:=fun j u hu=>by have:=ho.cells (g:=g) rfl j u hu;rwa[add_plain]at this);have hb0:w0.heap.size≤w.heap.size:=hB.size;change cur.size=cap*1 at hcs;change List.take (l0.length*1) cur.toList=inner at htk;have hk0g:P0_ g:=hk0 g rfl;have hoi:w.drew.ownsRow w0.heap.size 3 1 (.slice (some ⟨g,0,none⟩) i cap) i (inner.take (i*1)):=⟨by rw[List.length_take];omega,.inr ⟨g,cap,cur,rfl,hbg,hh,by omega,hcm,hcs,by rw[← htk,List.take_take,Nat.min_eq_left (by omega)]⟩⟩;obtain⟨d,hd⟩:∃ d,l0.length=i+1+d:=⟨l0.length-(i+1),by omega⟩;rw[hd]at hil hnc htk ⊢;obtain⟨news,hnews⟩:∃ news,news=inner.drop ((i+1)*1):=⟨_,rfl⟩;have hnl:news.length=d*1:=by rw[hnews,List.length_drop,hil];omega
     have hn1:∀ u∈news,u.oneCell'=true:=fun u hu=>by
      rw[hnews]at hu;exact(Kd.reps_one hr (by decide) (fun p c hp=>Kd.K_one (Kd.int .i64) (Kd.K_of_M (Kd.int .i64) hp))) u (List.mem_of_mem_drop hu)
     obtain⟨A,hA,hsrc⟩:∃ A:Addr,(if cap=i+1 then some (⟨g,0,none⟩:Addr) else some ⟨g,i+1,none⟩)=some A∧Hid (∀ t u,news[t]? = some u→w.drew.cell? (A.add t)=some u):=by
      by_cases hq:cap=i+1
      ·refine⟨⟨g,0,none⟩,by simp[hq],fun t u hu=>?_⟩;(have h0:news.length=0:=by omega);rw[List.length_eq_zero_iff.1 h0]at hu;simp at hu
      refine⟨⟨g,i+1,none⟩,by simp[hq],fun t u hu=>?_⟩;rw[hnews,List.getElem?_drop]at hu;rw[Addr.add_lit];exact hcells _ _ (by simpa using hu)
     have HD:=zK_ hd;clear hi;have HO:=zK_ hoi;have HNL:=zK_ hnl;have HN1:=zK_ hn1;have HR:=zK_ hr;have HNW:=zK_ hnews;have HIL:=zK_ hil;have HBW:=zK_ hB;have HC:=zK_ hcs;have HG:=zK_ (⟨hbg,hk0g,hcm⟩:w0.heap.size≤g∧P0_ g∧cap≤maxLen);(have hic:i≤cap:=by omega);(have hjc:i+1≤cap:=by omega);(have hcz:cap≤9223372036854775807:=by have:=hcm;unfold maxLen at this;omega);clear hnl hn1 hr hnews hil hB hcs hbg hk0g hcm hh htk ho hcells hk0 hoi hd
     have clr_:∀ {W1:World},W1.ownsRow w0.heap.size 3 1 (.slice (some ⟨g,0,none⟩) (i+d) cap) (i+d) (inner.take (i*1)++news)→∀ ty,(Builtin.clear_ #[26] ty #[.slice (some ⟨g,i+d,none⟩) (i+1+d-(i+d)) (cap-(i+d))]).run Try.prog W1 = .ok (.tuple #[]) (W1.setCells g (i+d) [.int .i64 0]):=fun {W1} hO ty=>by
      rcases hO.2 with ⟨hv,_⟩|⟨g',cap',cur',hv,_,hh',_,_,hs',_⟩
      ·cases hv
      ·injection hv with ha _ hc';injection ha with ha;injection ha with ha;subst ha;subst hc';rw[show i+1+d-(i+d)=1 by omega];exact aD6.clear_ W1 Try.underlying26 Try.zeroValue3 hh' (by rw[hs'];omega)
     (have hbi0:(0:Int)≤(i:Int)+1:=by omega);(have hbi1:(i:Int)+1≤(i:Int)+1+(d:Int):=by omega);go_enter Try.func147,Try.ntmps147;(go_wp2_with fail);(go_region_law (refine Cf.step_append_own rfl (.tmp 22) (.tmp 25) 26 rfl w0.heap.size 3 i0 1 Try.underlying26 hi0 hz1 g i cap (inner.take (i*1)) (by simp[Act.eval,Act.put]) HO.out A d (cap-(i+1)) news (by simp[Act.eval,Act.put]) HNL.out hsrc.out HN1.out (by omega) ?_;intro W1 hO1 hG1;have HO1:=zK_ hO1;have HG1:=zK_ hG1;have hcl:=clr_ hO1;obtain⟨W2,hW2⟩:∃ W2,W2=W1.setCells g (i+d) [.int .i64 0]:=⟨_,rfl⟩;rw[← hW2]at hcl;have HW2:=zK_ hW2;clear hO1 hG1 hW2));go_wp2;refine bodyPost_ret (v:=.slice (some ⟨g,0,none⟩) (i+d) cap) (by simp[results,Try.results147,go_sem]) rfl ?_;have hO2:=Cf.own_tail [.int .i64 0] (i+d) W1 HO1.out (by omega) (by have:=HC.out;simp;omega);rw[← HW2.out]at hO2;have hgr:w.grownBy W2 (some g):=⟨hO2.2.os.trans HG1.out.os,hO2.2.tape.trans HG1.out.tape,hO2.2.output.trans HG1.out.output,Nat.le_trans HG1.out.size hO2.2.size,fun k hk hne=>(hO2.2.block k (Nat.lt_of_lt_of_le hk HG1.out.size) hne).trans (HG1.out.block k hk hne)⟩;(have hel:l0.eraseIdx ((i:Int)).toNat=l0.take i++l0.drop (i+1):=by rw[Int.toNat_natCast,List.eraseIdx_eq_take_drop_succ]);refine⟨_,rfl,⟨fun k hk=>?_,?_⟩,⟨hgr.os.trans HBW.out.os,hgr.tape.trans HBW.out.tape,hgr.output.trans HBW.out.output,Nat.le_trans HBW.out.size hgr.size,fun k hk=>(hgr.block k (Nat.lt_of_lt_of_le hk HBW.out.size) (by have:=HG.out.1;simp;omega)).trans (HBW.out.block k hk)⟩,⟨hgr.size,fun k hk hn=>hgr.block k hk (fun e=>hn (by injection e with e;rw[e];exact HG.out.2.1))⟩⟩
     ·(simp[Value.ownBlock]at hk);subst hk;exact .inl HG.out.2.1
     ·(have hlen:(l0.eraseIdx ((i:Int)).toNat).length=i+d:=by rw[hel,List.length_append,List.length_take,List.length_drop,HD.out];omega);refine⟨inner.take (i*1)++news,by rw[hlen];exact hO2.1,?_⟩;rw[hel,HNW.out];have ht:=Kd.reps_take (m:=i) HR.out (by rw[HD.out];omega);have hd2:=Kd.reps_drop (m:=i+1) HR.out;(refine(Kd.reps_append ht hd2).imp_ fun p c hp=>?_);refine Kd.M_mono (Kd.int .i64) (fun k hk=>?_) (Kd.M_step hp (w1:=W2) fun k hk hlt=>hgr.block k hlt (fun e=>hk.2 (by rw[e];rfl)));exact⟨.inl hk.1,fun e=>hk.2 (by rw[e];rfl)⟩
   ·cases h
  ·cases h
 ·cases h
def aBz.f (k:Nat) (aD:Int) (aC:List S57) (a1:Int):Option (List (List Int)):=(aCk.f aD aC a1).bind fun t=>if t=true then(aAr.f k aD aC).bind fun L=>Cf.redF a1 L else some []
theorem aBz.mono:∀ a0 a1 a2 k,LeO (aBz.f k a0 a1 a2) (aBz.f (k+1) a0 a1 a2):=by
 intro a0 a1 a2 k;unfold aBz.f;exact LeO.bind (LeO.refl _) fun t=>LeO.ite (LeO.bind (aAr.mono _ _ k) fun _=>LeO.refl _) (LeO.refl _)
theorem aBz.calls (k:Nat) (aD:Int) (aI:Option Addr) (aG:Nat) (aC:List S57) (a1:Int) (r:List (List Int)) (w:World) (hr0_1:Kd.C k57 w aI aC.length aC) (hc0_1:aC.length≤aG) (h:aBz.f k aD aC a1=some r) :
  Calls Try.prog 121 #[.agg #[.int .i64 aD,.slice aI aC.length aG],.int .i64 a1] w fun e w'=>∃ v0_:Value,e = .returned (v0_)∧Kd.S (Kd.slice 3 (Kd.int .i64)) 26 w' w.heap.size (fun _=>True) v0_ r∧Below w.heap.size w w':=by
 have hu30:=Try.underlying25;have HR:=zK_ hr0_1;have HC:=zK_ hc0_1;clear hr0_1 hc0_1;have H:((aCk.f aD aC a1).bind fun t=>if t=true then(aAr.f k aD aC).bind fun L=>Cf.redF a1 L else some [])=some r:=h;clear h;obtain⟨t,hv,H⟩:=zO_ H;have HV:=zK_ hv;clear hv;have HB:=zK_ (aAz (Below.refl w.heap.size w) (.cells #[.int .i64 aD,.slice aI aC.length aG] 25));have BK:=zK_ (heap_alloc_new w (.cells #[.int .i64 aD,.slice aI aC.length aG] 25))
 cases t with
 | false =>
  obtain rfl:=Option.some.inj H;clear H;go_enter Try.func121,Try.ntmps121;(go_wp2_with fail);refine(aCk.calls _ _ _ aC _ false _ (Kd.C_below HR.out HB.out) HC.out HV.out).mono ?_;rintro e w1 ⟨rfl,hb⟩;have HB1:=zK_ (aA2 HB.out hb);clear hb;go_wp2;go_ret;exact⟨_,rfl,Kd.S_nil _ _ _ _ _,HB1.out⟩
 | true =>
  rw[if_pos rfl]at H;obtain⟨L,hL,H⟩:=zO_ H;have HL:=zK_ hL;clear hL;unfold Cf.redF at H;split at H
  ·rename_i hq;obtain rfl:=Option.some.inj H;clear H;obtain⟨hq0,hq1,hq2,hq3⟩:=hq;obtain⟨q,rfl⟩:=Int.eq_ofNat_of_zero_le hq0;rw[Int.toNat_natCast];have HQ:=zK_ (show q≤1000000∧L.length≤1000000∧∀ r∈L,q<r.length from ⟨by omega,hq2,fun r hr=>by have:=hq3 r hr;omega⟩);clear hq0 hq1 hq2 hq3;go_enter Try.func121,Try.ntmps121;(go_wp2_with fail);refine(aCk.calls _ _ _ aC _ true _ (Kd.C_below HR.out HB.out) HC.out HV.out).mono ?_;rintro e w1 ⟨rfl,hb⟩;have HB1:=zK_ (aA2 HB.out hb);have sX:=zK_ (aA3 BK.out hb);clear hb;have hz0:w1.cell? ⟨w.heap.size,0,none⟩=some (.int .i64 aD):=(blk_cell sX.out 0).trans rfl;have hz1:w1.cell? ⟨w.heap.size,1,none⟩=some (.slice aI aC.length aG):=(blk_cell sX.out 1).trans rfl;(go_wp2_with fail);refine(aAr.calls k _ _ _ aC L _ (Kd.C_below HR.out HB1.out) HC.out HL.out).mono ?_;rintro e w2 ⟨vL,rfl,hS,hb⟩;have HB2:=zK_ (aA2 HB1.out hb);obtain⟨okj,rs,hO,_,hok⟩:=Cf.rows_open (Kd.S_bound hS);obtain⟨AL,cL,eL,hcL,_⟩:=Kd.S_reads hS;have HO:=zK_ hO;have HSZ:=zK_ (show ∀ j k,okj j k→k<w2.heap.size from fun j k h=>(hok j k h).2.2.1);have HW1:=zK_ (aAd HB1.out);have HRow:=zK_ (show ∀ j x u,L[j]? = some x→rs[j]? = some u→Kd.R (Kd.int .i64) 3 w2 w.heap.size (okj j) u x from fun j x u hx hu=>Kd.R_lower (hO.row j x u hx hu) (aAd HB1.out));have HOL:=zK_ (show ∀ k,vL.ownBlock=some k→k<w2.heap.size from Kd.S_lt hS);subst eL;have hLl:L.length≤cL:=hcL;clear hS hb hO hok hcL hz0 hz1;go_wp2;(go_loopw [5,15] (fun v5 v15 wr=>∃ i:Nat,v15 = .int .i64 (i:Int)∧Aside0 (i≤L.length∧w2.heap.size≤wr.heap.size)∧Aside0 (Below w.heap.size w wr)∧Aside0 (∀ k,((Value.slice AL L.length cL).ownBlock=some k∨∃ j,i≤j∧okj j k)→wr.heap[k]? = w2.heap[k]?)∧Aside0 (Kd.S (Kd.slice 3 (Kd.int .i64)) 26 wr w.heap.size (fun k=>(∃ j,j<i∧okj j k)∨w2.heap.size≤k) v5 (Cf.keepF q L i))) (fun _ v _=>L.length-(intOf v).toNat));case atStart=>exact⟨0,rfl,⟨Nat.zero_le _,Nat.le_refl _⟩,HB2,⟨fun _ _=>rfl⟩,⟨Kd.S_nil _ _ _ _ _⟩⟩
   case round =>
    obtain⟨i,rfl,HI,HBr,HM,HS⟩:=hrel;by_cases hlt:i<L.length;rotate_left
    ·have c0:decide ((i:Int)<(L.length:Int))=false:=decide_eq_false (by omega);(have hi:i=L.length:=by have:=HI.out;omega);subst hi;clear hlt;go_wp2;go_ret;exact⟨_,rfl,Kd.S_mono HS.out (fun _ _=>trivial),HBr.out⟩
    have c0:decide ((i:Int)<(L.length:Int))=true:=decide_eq_true (by omega);(have hil:i<rs.length:=by rw[HO.out.len];exact hlt);obtain⟨x,hxi⟩:∃ x,L[i]? = some x:=⟨_,List.getElem?_eq_getElem hlt⟩;obtain⟨u,hui⟩:∃ u,rs[i]? = some u:=⟨_,List.getElem?_eq_getElem hil⟩;have hR2:=HRow.out i _ _ hxi hui;have hown:=HO.out.own;obtain⟨gL,cap,hgL,hgb,hgc⟩:=hown.form (by omega);injection hgL with hA hn hc;subst hA;(have hcell2:w2.cell? ⟨gL,i,none⟩=some u:=by have:=hown.cells (g:=gL) rfl i _ hui;rwa[add_plain]at this);have hsame:wr.heap[gL]? = w2.heap[gL]?:=HM.out gL (.inl rfl);have hcell:wr.cell? ⟨gL,i,none⟩=some u:=(World.cell?_of_block (a:=⟨gL,i,none⟩) hsame).trans hcell2;(have hRr:=Kd.R_move hR2 (w1:=wr) fun k hk=>HM.out k (.inr ⟨i,Nat.le_refl _,hk⟩));obtain⟨Ai,ci,ei⟩:=Kd.R_slice hRr;rw[ei]at hcell hRr;have HRr:=zK_ hRr;(have p1:(0:Int)≤(i:Int):=by omega);(have p2:(i:Int)<(L.length:Int):=by omega);(have hib:(i:Int)≤1000000:=by have:=HQ.out.2.1;omega);(have hq0:(0:Int)≤(q:Int):=by omega);(have hqb:(q:Int)≤1000000:=by have:=HQ.out.1;omega);have HLT:=zK_ hlt;have HXI:=zK_ hxi;have HGL:=zK_ (HOL.out gL rfl);clear hR2 hown hgb hgc hsame hcell2 hRr hxi hui hlt hil ei hn hc;by_cases hq:i=q
    ·(have c1:((i:Int)==(q:Int))=true:=by simp[hq]);(have c2:((i:Int) != (q:Int))=false:=by simp[hq]);have HQI:=zK_ hq;clear hq;go_wp2;go_roundw
     case rel =>
      refine⟨i+1,by go_num,⟨by have:=HLT.out;omega,HI.out.2⟩,HBr,⟨fun k hk=>HM.out k (hk.imp_right fun⟨j,hj,h⟩=>⟨j,by omega,h⟩)⟩,⟨?_⟩⟩;have e:Cf.keepF q L (i+1)=Cf.keepF q L i:=if_pos HQI.out;rw[e];exact Kd.S_mono HS.out fun k hk=>hk.imp_left fun⟨j,hj,h⟩=>⟨j,by omega,h⟩
     case measure =>
      have:=HLT.out;(simp[intOf]);omega
    (have c1:((i:Int)==(q:Int))=false:=by simp;omega);(have c2:((i:Int) != (q:Int))=true:=by simp;omega);have HQI:=zK_ hq;clear hq;(go_wp2_with fail);refine(aD6.calls (okj i) _ x (q:Int) _ (x.eraseIdx q) w wr HBr.out HRr.out ?hd).mono ?_
    case hd =>
     have hql:q<x.length:=HQ.out.2.2 x (List.mem_of_getElem? HXI.out);unfold aD6.f;rw[if_pos (by omega),if_pos (by omega),if_pos rfl,Int.toNat_natCast]
    rintro e w3 ⟨vD,rfl,hD,hb3,hk3⟩;obtain⟨Ad,cd,ed⟩:=Kd.R_slice hD;subst ed;have HD:=zK_ hD;have HB3:=zK_ hb3;have HK3:=zK_ hk3;clear hD hb3 hk3;have HSr:=zK_ (Kd.S_mono (ok':=fun k=>(((∃ j,j<i+1∧okj j k)∨w2.heap.size≤k)∧¬ (okj i k∨wr.heap.size≤k))) (Kd.S_step (Kd.S_bound HS.out) (w1:=w3) fun k hk hlt=>HK3.out.2 k hlt fun hi=>hk.1.elim (fun⟨j,hj,h⟩=>by have:=HO.out.apart j i k h hi;omega) (fun h=>by have:=HSZ.out i k hi;omega)) fun k hk=>⟨hk.1.imp_left fun⟨j,hj,h⟩=>⟨j,by omega,h⟩,fun h=>h.elim (fun hi=>hk.1.elim (fun⟨j,hj,h⟩=>by have:=HO.out.apart j i k h hi;omega) (fun h=>by have:=HSZ.out i k hi;omega)) (fun h=>by have:=hk.2.2.1;omega)⟩);have HKL:=zK_ (Cf.keepF_len q L i);(go_wp2_with (first|((with_reducible refine aB4 (b:=.append) (xs:=#[.tmp 23,.tmp 29]) rfl ?_);at_builtin;refine Kd.S_append (Kd.slice 3 (Kd.int .i64)) (w0:=w) w.heap.size rfl (.tmp 23) (.tmp 29) 34 26 (.slice none 0 0) 24 rfl Try.underlying34 aGh rfl (by decide) (by omega) u5 (Cf.keepF q L i) (x.eraseIdx q) [.slice Ad (x.eraseIdx q).length cd] (fun k=>(∃ j,j<i+1∧okj j k)∨w2.heap.size≤k) (fun k=>okj i k∨wr.heap.size≤k) rfl rfl ?aP ?aK ?aF ?aO ?aB ?aS ?aL ?_;(case aP=>exact Kd.M_row HD.out);(case aK=>exact fun k hk=>⟨hk.elim (fun h=>.inl ⟨i,by omega,h⟩) (fun h=>.inr (by have:=HI.out.2;omega)),fun e=>(HSr.out.choose_spec.1 k e.symm).2 hk⟩);(case aF=>exact fun k hk=>.inr (by have:=HI.out.2;have:=HK3.out.1;omega));(case aO=>exact HSr.out);(case aB=>exact HB3.out);(case aS=>exact aAd HB3.out);(case aL=>have:=HKL.out;have:=HQ.out.2.1;have:=HLT.out;omega);intro v1 w4 ho hb hg hat;have HS4:=zK_ ho;have HB4:=zK_ hb;have HG4:=zK_ hg;clear ho hb hg hat)));go_roundw
    case rel =>
     refine⟨i+1,by go_num,⟨by have:=HLT.out;omega,by have:=HI.out.2;have:=HK3.out.1;have:=HG4.out.size;omega⟩,HB4,⟨fun k hk=>?_⟩,⟨?_⟩⟩
     ·have hk2:k<w2.heap.size∧¬ (∃ j,j<i+1∧okj j k):=by
       rcases hk with hk|⟨j,hj,h⟩
       ·(have:k=gL:=by simpa[Value.ownBlock]using hk.symm);subst this;exact⟨HGL.out,fun⟨j,_,h⟩=>HO.out.off j k h rfl⟩
       ·exact⟨HSZ.out j k h,fun⟨j',hj',h'⟩=>by have:=HO.out.apart j j' k h h';omega⟩
      have hkr:k<wr.heap.size:=Nat.lt_of_lt_of_le hk2.1 HI.out.2;(have h1:=HG4.out.block k (Nat.lt_of_lt_of_le hkr HK3.out.1) fun e=>(HSr.out.choose_spec.1 k e.symm).1.elim hk2.2 fun h=>by have:=hk2.1;omega);(have h2:=HK3.out.2 k hkr fun h=>hk2.2 ⟨i,by omega,h⟩);exact h1.trans (h2.trans (HM.out k (hk.imp_right fun⟨j,hj,h⟩=>⟨j,by omega,h⟩)))
     ·have e:Cf.keepF q L (i+1)=Cf.keepF q L i++[x.eraseIdx q]:=by
       show (if i=q then _ else _)=_;rw[if_neg HQI.out,List.getD_eq_getElem?_getD,HXI.out];rfl
      rw[e];exact HS4.out
    case measure =>
     have:=HLT.out;(simp[intOf]);omega
  ·cases H
def aCv.f (k:Nat) (aD:Int) (aC:List (S57)):Option (Int):=(aC2.f aD aC).bind fun aW=>(if aW=true then((aBz.f k aD aC 0).bind fun bH=>((aBl.f k bH).bind fun cJ=>(some cJ))) else(some 0))
theorem aCv.mono:∀ a0 a1 k,LeO (aCv.f k a0 a1) (aCv.f (k+1) a0 a1):=by
 intro a0 a1 k;unfold aCv.f;repeat' first|(with_reducible apply aBl.mono)|(with_reducible apply aBz.mono)|(with_reducible exact LeO.refl _)|(with_reducible exact LeO.none _)|(with_reducible refine LeO.ite ?_ ?_)|(with_reducible refine LeO.bind ?_ (fun _=>?_))|apply aBl.mono|apply aBz.mono|exact LeO.none _|refine LeO.ite ?_ ?_|refine LeO.bind ?_ (fun _=>?_)
theorem aCv.calls (k:Nat) (aD:Int) (aI:Option Addr) (aG:Nat) (aC:List (S57)) (r:Int) (w:World) (hr0_1:Kd.C k57 w aI aC.length aC) (hc0_1:aC.length≤aG) (h:aCv.f k aD aC=some r) :
  Calls Try.prog 85 #[.agg #[.int .i64 aD,.slice aI aC.length aG]] w fun e w'=>e = .returned (.int .i64 r)∧Below w.heap.size w w':=by
 have hu25:=Try.underlying25;have b5:=zK_ hr0_1;have bT:=zK_ hc0_1;clear hr0_1 hc0_1;have HB:=zK_ (Below.refl w.heap.size w);have H:((aC2.f aD aC).bind fun aW=>(if aW=true then((aBz.f k aD aC 0).bind fun bH=>((aBl.f k bH).bind fun cJ=>(some cJ))) else(some 0)))=some r:=h;clear h;obtain⟨aW,A20,H⟩:=zO_ H;(try dsimp only at H);have A2:=zK_ A20;clear A20;by_cases c3:aW=true;rotate_left
 ·replace c3:=Bool.eq_false_iff.mpr c3;subst c3;rw[if_neg (show ¬ (false=true) by decide)]at H;obtain rfl:=Option.some.inj H;go_enter Try.func85,Try.ntmps85;(go_wp2_with (first|((with_reducible refine aAn (N:=1) rfl ?_);refine aAl ?hg (N:=1) ?hd (cs:=#[.int .i64 aD,.slice aI aC.length aG]) (t:=25) ?hr ?_;(case hd=>rfl);(case hg=>rfl);(case hr=>exact aCp);intro aE hg w13 hbox hb;have n_:=zA4 (aA2 zz2 hb) hbox (aDi:w.heap.size≤aE) (aDi:w.heap.size≤aE);clear HB;obtain⟨HB,aA,GW101,GE101⟩:=n_;clear hb hbox hg;have fZ:=aC7 aA;have fY:=aC6 aA;have fX:=aA0 aA.out 0;have fW:=aA0 aA.out 1)|((with_reducible refine aAb (f:=50) rfl ?_);refine aBd (some 4) rfl rfl Try.func50 (by kernel_rfl) rfl #[.agg #[.int .i64 aD,.slice aI aC.length aG]] rfl zz3 ?_;(with_reducible refine(aC2.calls aD _ _ aC false _ ?side1 ?side2 A2.out).mono ?_);(case side1=>exact zz5);(case side2=>exact bT.out);rintro e w15 ⟨rfl,hb⟩;refine⟨_,rfl,?_⟩;have n_:=zA2 (aA3 (g:=aE) (o:=.cells #[.int .i64 aD,.slice aI aC.length aG] 25 (0,0)) zz0 hb) (aA2 zz1 hb);clear aA HB;obtain⟨aA,HB⟩:=n_;clear hb)));go_ret;exact⟨zz9,zz1⟩
 subst c3;rw[if_pos rfl]at H;obtain⟨bH,A40,H⟩:=zO_ H;(try dsimp only at H);have A4:=zK_ A40;clear A40;obtain⟨cJ,A50,H⟩:=zO_ H;(try dsimp only at H);have A5:=zK_ A50;clear A50;obtain rfl:=Option.some.inj H;go_enter Try.func85,Try.ntmps85;(go_wp2_with (first|((with_reducible refine aAn (N:=1) rfl ?_);refine aAl ?hg (N:=1) ?hd (cs:=#[.int .i64 aD,.slice aI aC.length aG]) (t:=25) ?hr ?_;(case hd=>rfl);(case hg=>rfl);(case hr=>exact aCp);intro aE hg w6 hbox hb;have n_:=zA4 (aA2 zz2 hb) hbox (aDi:w.heap.size≤aE) (aDi:w.heap.size≤aE);clear HB;obtain⟨HB,aA,GW101,GE101⟩:=n_;clear hb hbox hg;have gI:=aC7 aA;have gH:=aC6 aA;have gE:=aA0 aA.out 0;have gD:=aA0 aA.out 1)|((with_reducible refine aAb (f:=50) rfl ?_);refine aBd (some 4) rfl rfl Try.func50 (by kernel_rfl) rfl #[.agg #[.int .i64 aD,.slice aI aC.length aG]] rfl zz3 ?_;(with_reducible refine(aC2.calls aD _ _ aC true _ ?side1 ?side2 A2.out).mono ?_);(case side1=>exact zz5);(case side2=>exact bT.out);rintro e w8 ⟨rfl,hb⟩;refine⟨_,rfl,?_⟩;have n_:=zA2 (aA3 (g:=aE) (o:=.cells #[.int .i64 aD,.slice aI aC.length aG] 25 (0,0)) zz0 hb) (aA2 zz1 hb);clear aA HB;obtain⟨aA,HB⟩:=n_;clear hb;have gG:=aC7 aA;have gF:=aC6 aA;have gC:=aA0 aA.out 0;have gB:=aA0 aA.out 1)|((with_reducible refine aAb (f:=121) rfl ?_);refine aBd (some 7) rfl rfl Try.func121 (by kernel_rfl) rfl #[.agg #[.int .i64 aD,.slice aI aC.length aG],.int .i64 0] rfl zz3 ?_;(with_reducible refine(aBz.calls k aD _ _ aC 0 bH _ ?side1 ?side2 A4.out).mono ?_);(case side1=>exact zz5);(case side2=>exact bT.out);rintro e w10 ⟨v104,rfl,ho0,hb⟩;refine⟨_,rfl,?_⟩;have n_:=zA3 (Kd.S_lower ho0 (aAd zz1)) (aA3 (g:=aE) (o:=.cells #[.int .i64 aD,.slice aI aC.length aG] 25 (0,0)) zz0 hb) (aA2 zz1 hb);clear aA HB;obtain⟨gY,aA,HB⟩:=n_;clear ho0 hb;obtain⟨Ao11,co11,rJ⟩:=Kd.S_slice gY.out;subst rJ)|((with_reducible refine aAb (f:=120) rfl ?_);refine aBd (some 8) rfl rfl Try.func120 (by kernel_rfl) rfl #[.slice Ao11 bH.length co11] rfl zz3 ?_;(with_reducible refine(aBl.calls k _ _ bH cJ _ ?side1 ?side2 A5.out).mono ?_);(case side1=>repeat(first|exact(Kd.S_reads' gY.out).2.2|(with_reducible refine Kd.C_alloc ?_ _)|(with_reducible refine Kd.C_drewN ?_ _)|(with_reducible refine Kd.C_drew ?_)));(case side2=>exact(Kd.S_reads' gY.out).2.1);rintro e w12 ⟨rfl,hb⟩;refine⟨_,rfl,?_⟩;have n_:=zA3 (Kd.S_below (by(with_reducible repeat(first|apply Kd.S_alloc|apply Kd.S_drewN|apply Kd.S_drew));exact gY.out) hb) (aA3 (g:=aE) (o:=.cells #[.int .i64 aD,.slice aI aC.length aG] 25 (0,0)) zz0 hb) (aA2 zz1 hb);clear gY aA HB;obtain⟨gY,aA,HB⟩:=n_;clear hb)));go_ret;exact⟨zz9,zz1⟩
def aCz.f (k:Nat) (aD:Int) (aC:List (S57)):Option (Int):=(aCv.f k aD aC).bind fun aW=>(some aW)
theorem aCz.mono:∀ a0 a1 k,LeO (aCz.f k a0 a1) (aCz.f (k+1) a0 a1):=by
 intro a0 a1 k;unfold aCz.f;repeat' first|(with_reducible apply aCv.mono)|(with_reducible exact LeO.refl _)|(with_reducible exact LeO.none _)|(with_reducible refine LeO.ite ?_ ?_)|(with_reducible refine LeO.bind ?_ (fun _=>?_))|apply aCv.mono|exact LeO.none _|refine LeO.ite ?_ ?_|refine LeO.bind ?_ (fun _=>?_)
theorem aCz.calls (k:Nat) (aD:Int) (aI:Option Addr) (aG:Nat) (aC:List (S57)) (r:Int) (w:World) (hr0_1:Kd.C k57 w aI aC.length aC) (hc0_1:aC.length≤aG) (h:aCz.f k aD aC=some r) :
  Calls Try.prog 48 #[.agg #[.int .i64 aD,.slice aI aC.length aG]] w fun e w'=>e = .returned (.int .i64 r)∧Below w.heap.size w w':=by
 have hu25:=Try.underlying25;have b5:=zK_ hr0_1;have bT:=zK_ hc0_1;clear hr0_1 hc0_1;have HB:=zK_ (Below.refl w.heap.size w);have H:((aCv.f k aD aC).bind fun aW=>(some aW))=some r:=h;clear h;obtain⟨aW,A20,H⟩:=zO_ H;(try dsimp only at H);have A2:=zK_ A20;clear A20;obtain rfl:=Option.some.inj H;go_enter Try.func48,Try.ntmps48;(go_wp2_with (first|((with_reducible refine aAn (N:=1) rfl ?_);refine aAl ?hg (N:=1) ?hd (cs:=#[.int .i64 aD,.slice aI aC.length aG]) (t:=25) ?hr ?_;(case hd=>rfl);(case hg=>rfl);(case hr=>exact aCp);intro aE hg w3 hbox hb;have n_:=zA4 (aA2 zz2 hb) hbox (aDi:w.heap.size≤aE) (aDi:w.heap.size≤aE);clear HB;obtain⟨HB,aA,GW101,GE101⟩:=n_;clear hb hbox hg;have rI:=aC7 aA;have rH:=aC6 aA;have tW:=aA0 aA.out 0;have rG:=aA0 aA.out 1)|((with_reducible refine aAb (f:=85) rfl ?_);refine aBd (some 4) rfl rfl Try.func85 (by kernel_rfl) rfl #[.agg #[.int .i64 aD,.slice aI aC.length aG]] rfl zz3 ?_;(with_reducible refine(aCv.calls k aD _ _ aC aW _ ?side1 ?side2 A2.out).mono ?_);(case side1=>exact zz5);(case side2=>exact bT.out);rintro e w5 ⟨rfl,hb⟩;refine⟨_,rfl,?_⟩;have n_:=zA2 (aA3 (g:=aE) (o:=.cells #[.int .i64 aD,.slice aI aC.length aG] 25 (0,0)) zz0 hb) (aA2 zz1 hb);clear aA HB;obtain⟨aA,HB⟩:=n_;clear hb)));go_ret;exact⟨zz9,zz1⟩
def aDj.f (l0:List Int):Option (List Int):=if([]:List Int).length+l0.length<17592186044416 then(some (([]:List Int)++l0)) else(none)
theorem aDj.calls (A0:Option Addr) (c0:Nat) (l0:List Int) (r:List Int) (w:World) (hr0:Kd.C (Kd.int .i64) w A0 l0.length l0) (hc0:l0.length≤c0) (h:aDj.f l0=some r) :
  Calls Try.prog 86 #[.slice A0 l0.length c0] w fun e w'=>∃ v0_:Value,e = .returned (v0_)∧Kd.R (Kd.int .i64) 3 w' w.heap.size (fun _=>True) v0_ r∧Below w.heap.size w w':=by
 have HR0:=zK_ hr0;have HC0:=zK_ hc0;clear hr0 hc0;have HB:=zK_ (Below.refl w.heap.size w);have H:(if([]:List Int).length+l0.length<17592186044416 then(some (([]:List Int)++l0)) else(none))=some r:=h;clear h;by_cases c2:([]:List Int).length+l0.length<17592186044416;rotate_left
 ·rw[if_neg c2]at H;exact absurd H (by simp)
 rw[if_pos c2]at H;have KZ:=zK_ c2;clear c2;obtain⟨q7,hy_⟩:∃ y_:List Int,y_=(([]:List Int)++l0):=⟨_,rfl⟩;(replace H:(some q7)=some r:=zzY);have oX:=zK_ hy_;clear hy_;obtain rfl:=Option.some.inj H;go_enter Try.func86,Try.ntmps86;(go_wp2_with (first|((with_reducible refine aB4 (b:=.append) (xs:=#[.const (.slice none 0 0),.tmp 3]) rfl ?_);at_builtin;refine Kd.R_append_rows (Kd.int .i64) (w0:=w) w.heap.size rfl (.const (.slice none 0 0)) (.tmp 3) 26 3 (.int .i64 0) 8 rfl Try.underlying26 aDz rfl (by decide) (by omega) (.slice none 0 0) ([]:List Int) l0 _ _ _ (fun _=>True) (fun _=>False) rfl rfl ?aO ?aR (fun _ _ h=>h) (fun _ h=>h.elim) ?aF ?aB ?aS ?aL ?_;(case aR=>exact aTg);(case aB=>exact zz2);(case aF=>exact(fun _ _=>trivial));(case aO=>exact((Kd.R_nil _ _ _ _ (fun _=>True))));(case aS=>exact(aAd zz2));(case aL=>have:=KZ.out;omega);intro v102 w3 ho hb hg hat;rw[← oX.out]at ho;have n_:=zA2 hb ho;clear HB;obtain⟨HB,q5⟩:=n_;clear ho hb hg hat)));go_ret;exact⟨_,zz9,by(with_reducible repeat(first|apply Kd.R_alloc|apply Kd.R_drewN|apply Kd.R_drew));exact q5.out,zz2⟩
end Go.Proofs.Ytnbljcgdgblgoaa.P
end
section
namespace Go.Proofs.Ytnbljcgdgblgoaa.Cf
open Go.RowKit Go.Proofs.YtnbljcgdgblgoaaW.PrintWords
def Heads (w:World) (base:Nat) (ok:Nat→Prop) (f:Nat→Nat) (cur:Array Value) (Z:List (List Int×Nat)):Prop :=
 ∀ (j:Nat) (x:List Int) (i:Nat),Z[j]? = some (x,i)→∃ v,cur[j]? = some v∧Kd.R (Kd.int .i64) 3 w base (fun k=>ok k∧f k=i) v x
theorem S_heads {w:World} {base g n cap:Nat} {ok:Nat→Prop} {rows:List (List Int)} (h:Kd.S (Kd.slice 3 (Kd.int .i64)) 26 w base ok (.slice (some ⟨g,0,none⟩) n cap) rows) :
  ∃ f cur,base≤g∧ok g∧n=rows.length∧n≤cap∧cap≤maxLen∧cur.size=cap∧w.heap[g]? = some (.cells cur 26 (0,0))∧Heads w base (fun k=>ok k∧k≠g) f cur rows.zipIdx:=by
 obtain⟨f,h0,inner,ho,hr⟩:=h
 rw[List.length_zipIdx]at ho
 have hn:=ho.1
 rcases ho.2 with ⟨hv,_⟩|⟨g',cap',cur,hv,hb,hc,hnc,hcm,hcs,htk⟩
 ·cases hv
 ·injection hv with hA hN hC
  injection hA with hA
  injection hA with hA
  subst hA
  subst hC
  have hl:(rows.length:Nat)=n:=hN.symm
  refine⟨f,cur,hb,h0 g rfl,hl.symm,by omega,hcm,by rw[hcs];exact Nat.mul_one _,hc,?_⟩
  intro j x i hj
  have hM:=hr.2 j (x,i) hj
  obtain⟨v,hv2,hR⟩:=hM
  refine⟨v,?_,Kd.R_mono hR fun k hk=>⟨⟨hk.1.1,fun e=>hk.1.2 (by rw[e];rfl)⟩,hk.2⟩⟩
  have e1:((inner.drop (j*1)).take 1)=[v]:=hv2
  rw[Nat.mul_one]at e1
  have hjl:j<rows.length:=by have:=(List.getElem?_eq_some_iff.1 hj).1;rwa[List.length_zipIdx]at this
  have e2:inner[j]? = some v:=by
   have h1:=congrArg (fun l:List Value=>l[0]?) e1
   simp only[List.getElem?_take,List.getElem?_drop]at h1
   simpa using h1
  rw[← htk,List.getElem?_take,if_pos (by show j<rows.length*1;omega)]at e2
  simpa using e2
theorem heads_S {w:World} {base g cap:Nat} {ok:Nat→Prop} {f:Nat→Nat} {cur:Array Value} {rows:List (List Int)} (hb:base≤g) (hok:ok g) (hn:rows.length≤cap) (hcm:cap≤maxLen) (hcs:cur.size=cap) (hc:w.heap[g]? = some (.cells cur 26 (0,0))) (hH:Heads w base ok f cur rows.zipIdx) :
  Kd.S (Kd.slice 3 (Kd.int .i64)) 26 w base ok (.slice (some ⟨g,0,none⟩) rows.length cap) rows:=by
 have hz:rows.zipIdx.length=rows.length:=List.length_zipIdx
 refine⟨f,fun k hk=>?_,cur.toList.take rows.length,?_,?_⟩
 ·have:g=k:=by simpa[Value.ownBlock]using hk
  rw[← this];exact hok
 ·rw[hz]
  refine⟨?_,.inr ⟨g,cap,cur,rfl,hb,hc,hn,hcm,by rw[hcs];exact(Nat.mul_one _).symm,?_⟩⟩
  ·show _=rows.length*1
   rw[List.length_take,show cur.toList.length=cap from hcs,Nat.min_eq_left hn,Nat.mul_one]
  ·show cur.toList.take (rows.length*1)=_
   rw[Nat.mul_one]
 ·refine⟨?_,fun j p hj=>?_⟩
  ·show _=rows.zipIdx.length*1
   rw[hz,List.length_take,show cur.toList.length=cap from hcs,Nat.min_eq_left hn,Nat.mul_one]
  ·obtain⟨x,i⟩:=p
   obtain⟨v,hv,hR⟩:=hH j x i hj
   have hjl:j<rows.length:=by have:=(List.getElem?_eq_some_iff.1 hj).1;rwa[List.length_zipIdx]at this
   refine⟨v,?_,Kd.R_mono (Kd.R_types hR hc (by decide)) fun k hk=>⟨⟨hk.1.1,fun e=>hk.2 (by simpa[Value.ownBlock]using e)⟩,hk.1.2⟩⟩
   show ((cur.toList.take rows.length).drop (j*1)).take 1=[v]
   have e:(cur.toList.take rows.length)[j]? = some v:=by
    rw[List.getElem?_take,if_pos hjl]
    simpa using hv
   obtain⟨hl,he⟩:=List.getElem?_eq_some_iff.1 e
   rw[Nat.mul_one,List.drop_eq_getElem_cons hl,he]
   rfl
def keptZ (p:List Int→Bool) (rows:List (List Int)) (j:Nat):List (List Int×Nat):=(rows.zipIdx.take j).filter fun x => !p x.1
theorem keptZ_succ (p:List Int→Bool) {rows:List (List Int)} {j:Nat} (h:j<rows.length):keptZ p rows (j+1)=keptZ p rows j++(if p rows[j]=true then [] else [(rows[j],j)]):=by
 have hz:rows.zipIdx[j]? = some (rows[j],j):=by rw[List.getElem?_zipIdx,List.getElem?_eq_getElem h,Nat.zero_add];rfl
 unfold keptZ
 rw[List.take_add_one,hz,List.filter_append]
 congr 1
 by_cases c:p rows[j]=true
 ·rw[if_pos c];simp[c]
 ·rw[if_neg c];simp[c]
theorem keptZ_all (p:List Int→Bool) (rows:List (List Int)):(keptZ p rows rows.length).map (·.1)=rows.filter fun x => !p x:=by
 unfold keptZ
 rw[List.take_of_length_le (by rw[List.length_zipIdx];exact Nat.le_refl _)]
 have h:=List.filter_map (f:=fun x:List Int×Nat=>x.1) (p:=fun x => !p x) (l:=rows.zipIdx)
 rw[List.zipIdx_map_fst]at h
 exact h.symm
theorem aMf (p:List Int→Bool) (rows:List (List Int)) (j:Nat):((keptZ p rows j).map (·.2)).Nodup:=by
 have h1:(keptZ p rows j).Sublist rows.zipIdx:=(List.filter_sublist).trans (List.take_sublist _ _)
 have h2:=h1.map (·.2)
 refine h2.nodup ?_
 rw[List.zipIdx_map_snd]
 exact List.nodup_range'
theorem heads_push {w:World} {base:Nat} {ok:Nat→Prop} {f:Nat→Nat} {cur:Array Value} {Z:List (List Int×Nat)} (h:Heads w base ok f cur Z) {v:Value} {x:List Int} {t:Nat} (hl:Z.length<cur.size) (hR:Kd.R (Kd.int .i64) 3 w base (fun k=>ok k∧f k=t) v x):Heads w base ok f (cur.setIfInBounds Z.length v) (Z++[(x,t)]):=by
 intro j y i hj
 by_cases e:j<Z.length
 ·rw[List.getElem?_append_left e]at hj
  obtain⟨u,hu,hRu⟩:=h j y i hj
  exact⟨u,by rw[Array.getElem?_setIfInBounds_ne (by omega)];exact hu,hRu⟩
 ·have hjl:=(List.getElem?_eq_some_iff.1 hj).1
  rw[List.length_append,List.length_singleton]at hjl
  obtain rfl:j=Z.length:=by omega
  rw[List.getElem?_append_right (Nat.le_refl _),Nat.sub_self]at hj
  obtain⟨rfl,rfl⟩:=Prod.mk.inj (Option.some.inj hj)
  exact⟨v,by rw[Array.getElem?_setIfInBounds_self_of_lt hl],hR⟩
theorem heads_take {w:World} {base:Nat} {ok:Nat→Prop} {f:Nat→Nat} {cur:Array Value} {Z:List (List Int×Nat)} (h:Heads w base ok f cur Z) (n:Nat):Heads w base ok f cur (Z.take n):=by
 intro j x i hj
 rw[List.getElem?_take]at hj
 split at hj
 ·exact h j x i hj
 ·cases hj
theorem heads_cells {w:World} {base:Nat} {ok:Nat→Prop} {f:Nat→Nat} {cur cur':Array Value} {Z:List (List Int×Nat)} (h:Heads w base ok f cur Z) (hc:∀ j,j<Z.length→cur'[j]? = cur[j]?):Heads w base ok f cur' Z:=by
 intro j x i hj
 obtain⟨v,hv,hR⟩:=h j x i hj
 exact⟨v,(hc j (List.getElem?_eq_some_iff.1 hj).1).trans hv,hR⟩
theorem heads_step {w w1:World} {base:Nat} {ok:Nat→Prop} {f:Nat→Nat} {cur:Array Value} {Z:List (List Int×Nat)} (h:Heads w base ok f cur Z) (hm:∀ k,ok k→k<w.heap.size→w1.heap[k]? = w.heap[k]?):Heads w1 base ok f cur Z:=fun j x i hj=>by
 obtain⟨v,hv,hR⟩:=h j x i hj
 exact⟨v,hv,Kd.R_step hR fun k hk hlt=>hm k hk.1 hlt⟩
theorem keptZ_pre (p:List Int→Bool) (rows:List (List Int)) {i:Nat} (hi:i≤rows.length) (h:∀ j,(hj:j<rows.length)→j<i→p rows[j]=false):keptZ p rows i=rows.zipIdx.take i:=by
 unfold keptZ
 rw[List.filter_eq_self]
 intro x hx
 obtain⟨j,hj,rfl⟩:=List.getElem_of_mem hx
 rw[List.length_take,List.length_zipIdx]at hj
 rw[List.getElem_take,List.getElem_zipIdx]
 simp only
 rw[h j (by omega) (by omega)]
 rfl
theorem kept_S {w:World} {base g cap:Nat} {ok:Nat→Prop} {f:Nat→Nat} {cur:Array Value} {rows:List (List Int)} {p:List Int→Bool} (hb:base≤g) (hok:ok g) (hn:rows.length≤cap) (hcm:cap≤maxLen) (hcs:cur.size=cap) (hc:w.heap[g]? = some (.cells cur 26 (0,0))) (hH:Heads w base ok f cur (keptZ p rows rows.length)) :
  Kd.S (Kd.slice 3 (Kd.int .i64)) 26 w base ok (.slice (some ⟨g,0,none⟩) (rows.filter fun x => !p x).length cap) (rows.filter fun x => !p x):=by
 have hl:(rows.filter fun x => !p x).length≤cap:=Nat.le_trans (List.length_filter_le _ _) hn
 refine heads_S (f:=fun k=>((keptZ p rows rows.length).map (·.2)).idxOf (f k)) hb hok hl hcm hcs hc ?_
 intro j x i hj
 rw[← keptZ_all p rows]at hj
 rw[List.getElem?_zipIdx,Nat.zero_add,List.getElem?_map]at hj
 obtain⟨y,hy,he⟩:=Option.map_eq_some_iff.1 hj
 obtain⟨z,hz,hz2⟩:=Option.map_eq_some_iff.1 hy
 obtain⟨z1,z2⟩:=z
 subst hz2
 obtain⟨rfl,rfl⟩:=Prod.mk.inj he
 obtain⟨v,hv,hR⟩:=hH j z1 z2 hz
 refine⟨v,hv,Kd.R_mono hR fun k hk=>⟨hk.1,?_⟩⟩
 show ((keptZ p rows rows.length).map (·.2)).idxOf (f k)=j
 have hm:((keptZ p rows rows.length).map (·.2))[j]? = some z2:=by rw[List.getElem?_map,hz];rfl
 obtain⟨hjl,hje⟩:=List.getElem?_eq_some_iff.1 hm
 rw[hk.2,← hje]
 exact(aMf p rows rows.length).idxOf_getElem j hjl
def extB (m:Nat) (d:List Int):List (List Int):=(List.range m).map fun t:Nat=>d++[(t:Int)]
theorem extB_zero (d:List Int):extB 0 d=[]:=rfl
theorem extB_succ (m:Nat) (d:List Int):extB (m+1) d=extB m d++[d++[(m:Int)]]:=by
 unfold extB
 rw[List.range_succ,List.map_append]
 rfl
theorem extB_len (m:Nat) (d:List Int):(extB m d).length=m:=by unfold extB;simp
def boxL (c:Nat→Nat):Nat→List (List Int)
 | 0=>[[]]
 | v+1=>(boxL c v).flatMap (extB (c v))
def outB (m:Nat) (L:List (List Int)) (i:Nat):List (List Int):=(L.take i).flatMap (extB m)
theorem outB_succ (m:Nat) {L:List (List Int)} {i:Nat} {x:List Int} (h:L[i]? = some x):outB m L (i+1)=outB m L i++extB m x:=by
 unfold outB
 rw[List.take_add_one,h,List.flatMap_append]
 simp
theorem outB_all (c:Nat→Nat) (v:Nat):outB (c v) (boxL c v) (boxL c v).length=boxL c (v+1):=by
 unfold outB
 rw[List.take_length]
 rfl
theorem aG2 (m:Nat):∀ L:List (List Int),(L.flatMap (extB m)).length=L.length*m
 | []=>by simp
 | x::L=>by
  rw[List.flatMap_cons,List.length_append,extB_len,aG2 m L,List.length_cons,Nat.add_mul,Nat.one_mul,Nat.add_comm]
theorem outB_len (m:Nat) (L:List (List Int)) (i:Nat):(outB m L i).length≤L.length*m:=by
 unfold outB
 rw[aG2,List.length_take]
 exact Nat.mul_le_mul_right _ (Nat.min_le_right _ _)
theorem boxL_len {c:Nat→Nat} {b:Nat}:∀ {v:Nat},(∀ u,u<v→c u≤b)→(boxL c v).length≤b^v
 | 0,_=>Nat.le_refl _
 | v+1,h=>by
  show ((boxL c v).flatMap (extB (c v))).length≤_
  rw[aG2,Nat.pow_succ]
  exact Nat.mul_le_mul (boxL_len fun u hu=>h u (by omega)) (h v (by omega))
theorem boxL_row {c:Nat→Nat}:∀ {v:Nat} {x:List Int},x∈boxL c v→x.length=v∧∀ (j:Nat) (h:j<x.length),0≤x[j]∧x[j]<(c j:Int)
 | 0,x,h=>by
  rw[boxL,List.mem_singleton]at h
  subst h
  exact⟨rfl,fun j h=>absurd h (by simp)⟩
 | v+1,x,h=>by
  rw[boxL,List.mem_flatMap]at h
  obtain⟨d,hd,hx⟩:=h
  obtain⟨h1,h2⟩:=boxL_row hd
  unfold extB at hx
  obtain⟨t,ht,rfl⟩:=List.mem_map.1 hx
  rw[List.mem_range]at ht
  refine⟨by simp[h1],fun j hj=>?_⟩
  by_cases e:j<d.length
  ·rw[List.getElem_append_left e]
   exact h2 j e
  ·rw[List.length_append,List.length_singleton]at hj
   obtain rfl:j=d.length:=by omega
   rw[List.getElem_append_right (Nat.le_refl _)]
   simp only[Nat.sub_self,List.getElem_singleton]
   rw[h1]
   omega
def dfsB (c:Nat→Nat):Nat→Nat→List Int→List (List Int)
 | 0,_,s=>[s]
 | r+1,v,s=>(extB (c v) s).flatMap (dfsB c r (v+1))
theorem aLc {α:Type}:∀ L:List α,(L.flatMap fun t=>[t])=L
 | []=>rfl
 | a::L=>by rw[List.flatMap_cons,aLc L];rfl
theorem aQo (c:Nat→Nat):∀ (r v:Nat) (s:List Int),(dfsB c r v s).flatMap (extB (c (v+r)))=dfsB c (r+1) v s
 | 0,v,s=>by
  show ([s]:List (List Int)).flatMap (extB (c v))=(extB (c v) s).flatMap (fun t=>[t])
  rw[aLc,List.flatMap_cons,List.flatMap_nil,List.append_nil]
 | r+1,v,s=>by
  show ((extB (c v) s).flatMap (dfsB c r (v+1))).flatMap (extB (c (v+(r+1))))=(extB (c v) s).flatMap (dfsB c (r+1) (v+1))
  rw[List.flatMap_assoc]
  congr 1
  funext t
  rw[show v+(r+1)=v+1+r by omega]
  exact aQo c r (v+1) t
theorem dfs_box (c:Nat→Nat):∀ n,dfsB c n 0 []=boxL c n
 | 0=>rfl
 | n+1=>by
  rw[boxL,← dfs_box c n,← aQo c n 0 [],Nat.zero_add]
theorem aSj {m:Nat} {d:List Int} {j:Nat} (h:j<m):d++[(j:Int)]∈extB m d:=by
 unfold extB
 exact List.mem_map.2 ⟨j,List.mem_range.2 h,rfl⟩
end Go.Proofs.Ytnbljcgdgblgoaa.Cf
end
section
namespace Go.Proofs.Ytnbljcgdgblgoaa.P
open Go.RowKit Go.Proofs.YtnbljcgdgblgoaaW.PrintWords Go.Proofs.YtnbljcgdgblgoaaW.PrintLast Go.Proofs.YtnbljcgdgblgoaaW.PrintMore
attribute [local go_sem] aCt aCr aDb aDa aCa aC9 aCs aCq
def aA6.pr (k:Nat) (a0:Int) (es:List S57) (q:Int) (x:List Int):Bool:=match aAw.f k a0 es x q with|some r=>decide ((r.length:Int)<a0)|none=>false
structure aA6.Ctx (a0 q:Int) (es:List S57) (A0:Option Addr) (c0 bg bq g cap:Nat) (ok:Nat→Prop) (f:Nat→Nat) (cur:Array Value) (rows:List (List Int)) (w0 w:World):Prop where
 hb:Below w0.heap.size w0 w
 hg:w.heap[bg]? = some (.cells #[.int .i64 a0,.slice A0 es.length c0] 25 (0,0))
 hq:w.heap[bq]? = some (.cells #[.int .i64 q] 3 (0,0))
 hc:w.heap[g]? = some (.cells cur 26 (0,0))
 hH:Cf.Heads w w0.heap.size ok f cur rows.zipIdx
theorem aA6.Ctx.step {a0 q:Int} {es:List S57} {A0:Option Addr} {c0 bg bq g cap:Nat} {ok:Nat→Prop} {f:Nat→Nat} {cur:Array Value} {rows:List (List Int)} {w0 w w1:World} (h:aA6.Ctx a0 q es A0 c0 bg bq g cap ok f cur rows w0 w) (hb:Below w.heap.size w w1):aA6.Ctx a0 q es A0 c0 bg bq g cap ok f cur rows w0 w1 :=
 ⟨aA2 h.hb hb,aA3 h.hg hb,aA3 h.hq hb,aA3 h.hc hb,Cf.heads_step h.hH fun k _ hlt=>hb.block k hlt⟩
theorem aA6.Ctx.row {a0 q:Int} {es:List S57} {A0:Option Addr} {c0 bg bq g cap:Nat} {ok:Nat→Prop} {f:Nat→Nat} {cur:Array Value} {rows:List (List Int)} {w0 w:World} (h:aA6.Ctx a0 q es A0 c0 bg bq g cap ok f cur rows w0 w) {j:Nat} (hj:j<rows.length):∃ A c,cur[j]? = some (.slice A rows[j].length c)∧Kd.R (Kd.int .i64) 3 w w0.heap.size (fun k=>ok k∧f k=j) (.slice A rows[j].length c) rows[j]:=by
 obtain⟨v,hv,hR⟩:=h.hH j rows[j] j (by rw[List.getElem?_zipIdx,List.getElem?_eq_getElem hj,Nat.zero_add];rfl);obtain⟨A,c,e⟩:=Kd.R_slice hR;subst e;exact⟨A,c,hv,hR⟩
def aA6.T1:Bool×List (List Nat×List Nat):=(true,[([],[]),([],[]),([],[]),([0,1,2],[0,1,2]),([3],[3]),([],[]),([5],[5]),([4,6],[4,6]),([7,3,0,1,2,3,4,5,6,7],[7])])
def aA6.B1:List Nat:=[0,0,0,7,15,0,32,127,255]
theorem aA6.tab1:aFp .any (opsOf Try.f88 1)=aA6.T1:=by kernel_rfl
theorem aA6.bits1:aEa aA6.T1.2 aA6.B1=true:=by kernel_rfl
theorem aA6.clo (k:Nat) (a0 q:Int) (es:List S57) (A0:Option Addr) (c0 bg bq:Nat) (w:World) (hE:Kd.C k57 w A0 es.length es) (hc0:es.length≤c0) (hg:w.heap[bg]? = some (.cells #[.int .i64 a0,.slice A0 es.length c0] 25 (0,0))) (hq:w.heap[bq]? = some (.cells #[.int .i64 q] 3 (0,0))) (Ax:Option Addr) (cx:Nat) (x r:List Int) (hx:Kd.C (Kd.int .i64) w Ax x.length x) (hcx:x.length≤cx) (h:aAw.f k a0 es x q=some r) :
  Calls Try.prog 88 #[.slice Ax x.length cx,.pointer (some ⟨bg,0,none⟩),.pointer (some ⟨bq,0,none⟩)] w fun e w'=>e = .returned (.bool (aA6.pr k a0 es q x))∧Below w.heap.size w w':=by
 have hu25:=Try.underlying25;(have hpr:aA6.pr k a0 es q x=decide ((r.length:Int)<a0):=by unfold aA6.pr;rw[h]);rw[hpr];have HE:=Aside0.mk hE;have HC:=Aside0.mk hc0;have HG:=Aside0.mk hg;have HQ:=Aside0.mk hq;have HX:=Aside0.mk hx;have HCX:=Aside0.mk hcx;have HH:=Aside0.mk h;clear hE hc0 hg hq hx hcx h hpr;go_enter Try.func88,Try.ntmps88;(try go_wp2);refine aE5 (n:=9) (S:=fun w'=>w'.cell? ⟨bg,0,none⟩=some (.int .i64 a0)∧w'.cell? ⟨bg,1,none⟩=some (.slice A0 es.length c0)∧w'.cell? ⟨bq,0,none⟩=some (.int .i64 q)) (ds:=[]) (zM 9 0) (by kernel_rfl) rfl rfl ⟨(blk_cell HG.out 0).trans rfl,(blk_cell HG.out 1).trans rfl,(blk_cell HQ.out 0).trans rfl⟩ (fun hHeld=>?_);refine aDc aA6.tab1 aA6.bits1 (fun HT_ HW_=>?_);have HB1:=Aside0.mk (aEn (Below.refl w.heap.size w));have HG1:=Aside0.mk (aA3 HG.out HB1.out);have xU:=Aside0.mk (aA3 HQ.out HB1.out);have HE1:=Aside0.mk (Kd.C_below HE.out HB1.out);have HX1:=Aside0.mk (Kd.C_below HX.out HB1.out);generalize w.drew=wd at HB1 HG1 xU HE1 HX1 hHeld ⊢;refine zQ 1 6 (zM 9 2) ?_
 refine zQ 5 10 (zM 9 34) ?_
 refine take_ (i:=0) (N:=some 5) (v:=?_) (a':=?_) (zM 9 35) rfl rfl (aC0 HT_.out HW_.out (by kernel_rfl)) (fun _ _ _ h=>h) (Or.inl ⟨by rfl,?_⟩) hHeld ?_ ?_;rotate_left
 ·rintro w' ⟨s0,s1,s2⟩;exact zzT
 rotate_left
 ·exact zzS
 refine take_ (i:=2) (N:=some 7) (v:=?_) (a':=?_) (zM 9 39) rfl rfl (aC0 HT_.out HW_.out (by kernel_rfl)) (fun _ _ _ h=>h) (Or.inl ⟨by rfl,?_⟩) hHeld ?_ ?_;rotate_left
 ·rintro w' ⟨s0,s1,s2⟩;exact zzT
 rotate_left
 ·exact zzS
 refine take_ (i:=6) (N:=some 11) (v:=?_) (a':=?_) (zM 9 103) rfl rfl (aC0 HT_.out HW_.out (by kernel_rfl)) (fun _ _ _ h=>h) (Or.inl ⟨by rfl,?_⟩) hHeld ?_ ?_;rotate_left
 ·rintro w' ⟨s0,s1,s2⟩;exact zzT
 rotate_left
 ·exact zzS
 refine aFz (i:=3) (N:=some 8) (zM 9 111) rfl rfl (aDo HT_.out (by kernel_rfl)) (by decide) (fun K hK=>?_);refine aF2 Try.func89 (by kernel_rfl) rfl #[.agg #[.int .i64 a0,.slice A0 es.length c0],.slice Ax x.length cx,.int .i64 q] (by rfl) rfl rfl (by(try simp only[List.map_toArray,List.map_cons,List.map_nil]);first|done|rfl) ?_;refine(aAw.calls k a0 _ _ es _ _ x q r _ HE1.out HC.out HX1.out HCX.out HH.out).mono ?_;rintro e w2 ⟨v2,rfl,hR,hb⟩;obtain⟨Ar,cr,er⟩:=Kd.R_slice hR;subst er;have HB2:=Aside0.mk (aA2 HB1.out hb);have HG2:=Aside0.mk (aA3 HG1.out hb);have OK:=Aside0.mk (aA3 xU.out hb);clear hR hb;refine⟨_,rfl,?_⟩;refine hK.out _ _ ⟨(blk_cell HG2.out 0).trans rfl,(blk_cell HG2.out 1).trans rfl,(blk_cell OK.out 0).trans rfl⟩ (fun hHeld=>?_);clear hK K;refine aDr (a':=?_) ?_ ?_;rotate_left
 ·show Act.put _ (some 8) _=_;exact zzS
 refine zQ 4 9 (zM 9 127) ?_
 refine zQ 7 12 (zM 9 255) ?_
 refine zQ 8 4 (zM 9 511) ?_
 refine aEq (aDy HT_.out (by kernel_rfl)) ?_;(try go_wp2);go_ret;exact⟨rfl,HB2.out⟩
theorem aA6.idx (k:Nat) (a0 q:Int) (es:List S57) (A0:Option Addr) (c0 bg bq g cap:Nat) (ok:Nat→Prop) (f:Nat→Nat) (cur:Array Value) (rows:List (List Int)) (w0 w:World) (hE:Kd.C k57 w0 A0 es.length es) (hc0:es.length≤c0) (hI:aA6.Ctx a0 q es A0 c0 bg bq g cap ok f cur rows w0 w) (hl:rows.length≤1000000000) (hcap:rows.length≤cap) (hP:∀ x∈rows,(aAw.f k a0 es x q).isSome=true) :
  Calls Try.prog 122 #[.slice (some ⟨g,0,none⟩) rows.length cap,.func (.func 88) #[] #[.pointer (some ⟨bg,0,none⟩),.pointer (some ⟨bq,0,none⟩)]] w fun e w'=>Below w.heap.size w w'∧((e = .returned (.int .i64 (-1))∧∀ x∈rows,aA6.pr k a0 es q x=false)∨∃ i:Nat,e = .returned (.int .i64 (i:Int))∧i<rows.length∧(∀ j,(h:j<rows.length)→j<i→aA6.pr k a0 es q rows[j]=false)∧∀ h:i<rows.length,aA6.pr k a0 es q rows[i]=true):=by
 have HE:=Aside0.mk hE;have HC:=Aside0.mk hc0;have HI:=Aside0.mk hI;have HL:=Aside0.mk hl;have HCAP:=Aside0.mk hcap;have HP:=Aside0.mk hP;clear hE hc0 hI hl hcap hP;go_enter Try.func122,Try.ntmps122;go_wp2;(go_loopw [8] (fun v8 wr=>∃ i:Nat,v8 = .int .i64 (i:Int)∧Aside0 (i≤rows.length)∧Aside0 (aA6.Ctx a0 q es A0 c0 bg bq g cap ok f cur rows w0 wr)∧Aside0 (Below w.heap.size w wr)∧Aside0 (∀ j,(h:j<rows.length)→j<i→aA6.pr k a0 es q rows[j]=false)) (fun v _=>rows.length-(intOf v).toNat));case atStart=>exact⟨0,rfl,⟨Nat.zero_le _⟩,HI,⟨Below.refl _ _⟩,⟨fun j _ h=>absurd h (by omega)⟩⟩
 case round =>
  obtain⟨i,rfl,HIL,HIr,HBr,HF⟩:=hrel;by_cases hlt:i<rows.length;rotate_left
  ·have d0:decide ((i:Int)<(rows.length:Int))=false:=decide_eq_false (by omega);have d1:decide (i<rows.length)=false:=decide_eq_false hlt;(have hi:i=rows.length:=by have:=HIL.out;omega);clear hlt;go_wp2;go_ret;refine⟨HBr.out,Or.inl ⟨rfl,fun x hx=>?_⟩⟩;obtain⟨j,hj,rfl⟩:=List.getElem_of_mem hx;exact HF.out j hj (by omega)
  have d0:decide ((i:Int)<(rows.length:Int))=true:=decide_eq_true (by omega);have d1:decide (i<rows.length)=true:=decide_eq_true hlt;(have p1:(0:Int)≤(i:Int):=by omega);(have p2:(i:Int)<(rows.length:Int):=by omega);(have hib:(i:Int)≤1000000000:=by have:=HL.out;omega);obtain⟨Ai,ci,hcur,hRi⟩:=HIr.out.row hlt;have hcell:wr.cell? ⟨g,i,none⟩=some (.slice Ai rows[i].length ci):=(blk_cell HIr.out.hc i).trans hcur;obtain⟨r,hr⟩:=Option.isSome_iff_exists.1 (HP.out _ (List.getElem_mem hlt));have HRR:=Aside0.mk hr;have HRi:=Aside0.mk (Kd.R_reads' hRi);have HLT:=Aside0.mk hlt;clear hcur hRi hr;generalize hx:rows[i]'HLT.out=x at hcell HRR HRi;have HXX:=Aside0.mk hx;clear hx hlt;(go_wp2_with fail);refine(aA6.clo k a0 q es A0 c0 bg bq _ (Kd.C_below HE.out HIr.out.hb) HC.out HIr.out.hg HIr.out.hq _ _ x r HRi.out.2.2 HRi.out.2.1 HRR.out).mono ?_;rintro e w1 ⟨rfl,hb⟩;have HI1:=Aside0.mk (HIr.out.step hb);have HB1:=Aside0.mk (aA2 HBr.out hb);clear hb hcell
  cases hp:aA6.pr k a0 es q x with
  | true =>
   go_wp2;go_ret;exact⟨HB1.out,Or.inr ⟨i,rfl,HLT.out,HF.out,fun h=>by rw[HXX.out];exact hp⟩⟩
  | false =>
   have HPP:=Aside0.mk hp;clear hp;go_wp2;go_roundw
   case rel =>
    refine⟨i+1,by go_num,⟨HLT.out⟩,HI1,HB1,⟨fun j h hj=>?_⟩⟩;by_cases e:j=i
    ·subst e;rw[HXX.out];exact HPP.out
    ·exact HF.out j h (by omega)
   case measure =>
    have:=HLT.out;(simp[intOf]);omega
theorem aA6.cutl {P:Program} (t e:TypeId) {i:TypeInfo} (ht:P.underlying t=some (.slice e)) (hi:P.info? e=some i) (hsz:i.size=1) (g n c l:Nat) (hl:l≤n) (hc:l<c):∀ W:World,(Instr.slice t (.slice (some ⟨g,0,none⟩) n c) (some (.int .i64 (l:Int))) none none).run P W = .ok (.slice (some ⟨g,l,none⟩) (n-l) (c-l)) W:=by
 intro W;(have hel:P.elem t=e:=by simp[Program.elem,ht]);(have hu:P.underlying t=some (.slice (P.elem t)):=by rw[hel];exact ht);rw[run_slice_l W t (some ⟨g,0,none⟩) n c hu .i64 (l:Int) (by omega) (by omega),hel];(have hne:¬ (c=l):=by omega);(simp[sizeOf,typeInfo,hi,hsz,sliced,Result.andThen,Addr.add,hne]);omega
theorem aA6.cuth {P:Program} (t e:TypeId) {i:TypeInfo} (ht:P.underlying t=some (.slice e)) (hi:P.info? e=some i) (hsz:i.size=1) (g n c h:Nat) (hc:h≤c):∀ W:World,(Instr.slice t (.slice (some ⟨g,0,none⟩) n c) none (some (.int .i64 (h:Int))) none).run P W = .ok (.slice (some ⟨g,0,none⟩) h c) W:=by
 intro W;(have hel:P.elem t=e:=by simp[Program.elem,ht]);(have hu:P.underlying t=some (.slice (P.elem t)):=by rw[hel];exact ht);rw[run_slice_h W t (some ⟨g,0,none⟩) n c hu .i64 (h:Int) (by omega) (by omega),hel];simp[sizeOf,typeInfo,hi,hsz,sliced,Result.andThen,Addr.add]
theorem aA6.del (k:Nat) (a0 q:Int) (es:List S57) (A0:Option Addr) (c0 bg bq g cap:Nat) (ok:Nat→Prop) (f:Nat→Nat) (cur:Array Value) (rows:List (List Int)) (w0 w:World) (hE:Kd.C k57 w0 A0 es.length es) (hc0:es.length≤c0) (hI:aA6.Ctx a0 q es A0 c0 bg bq g cap ok f cur rows w0 w) (hl:rows.length≤1000000000) (hcap:rows.length≤cap) (hP:∀ x∈rows,(aAw.f k a0 es x q).isSome=true) (hcs:cur.size=cap) (hcm:cap≤maxLen) (hbg:w0.heap.size≤g) (hok:∀ k_,ok k_→k_≠g) (hne:bg≠g∧bq≠g) :
  Calls Try.prog 87 #[.slice (some ⟨g,0,none⟩) rows.length cap,.func (.func 88) #[] #[.pointer (some ⟨bg,0,none⟩),.pointer (some ⟨bq,0,none⟩)]] w fun e w'=>∃ v:Value,e = .returned v∧Kd.S (Kd.slice 3 (Kd.int .i64)) 26 w' w0.heap.size (fun k_=>ok k_∨k_=g) v (rows.filter fun x => !aA6.pr k a0 es q x)∧Below w0.heap.size w0 w':=by
 have hidx:=aA6.idx k a0 q es A0 c0 bg bq g cap ok f cur rows w0 w hE hc0 hI hl hcap hP;have HE:=Aside0.mk hE;have HC:=Aside0.mk hc0;have HI:=Aside0.mk hI;have HL:=Aside0.mk hl;have HCAP:=Aside0.mk (show rows.length≤cap∧cur.size=cap∧cap≤maxLen from ⟨hcap,hcs,hcm⟩);have HP:=Aside0.mk hP;have HBG:=Aside0.mk hbg;have HOK:=Aside0.mk hok;have HNE:=Aside0.mk hne;have HIDX:=Aside0.mk hidx;(have hnb:(rows.length:Int)≤1000000000:=by omega);clear hE hc0 hI hl hcap hP hcs hcm hbg hok hne hidx;go_enter Try.func87,Try.ntmps87;(go_wp2_with fail);refine HIDX.out.mono ?_;rintro e w1 ⟨hb,hcase⟩;have HI1:=Aside0.mk (HI.out.step hb);clear hb HIDX;rcases hcase with ⟨rfl,hall⟩|⟨i0,rfl,hi0,hbef,hat⟩
 ·have HALL:=Aside0.mk hall;clear hall;go_wp2;go_ret;(have ef:(rows.filter fun x => !aA6.pr k a0 es q x)=rows:=List.filter_eq_self.2 fun x hx=>by rw[HALL.out x hx];rfl);rw[ef];refine⟨_,rfl,Kd.S_mono (Cf.heads_S (ok:=fun k_=>ok k_∨k_=g) (f:=f) HBG.out (Or.inr rfl) HCAP.out.1 HCAP.out.2.2 HCAP.out.2.1 HI1.out.hc ?_) (fun k_ h=>h),HI1.out.hb⟩;intro j x i hj;obtain⟨v,hv,hR⟩:=HI1.out.hH j x i hj;exact⟨v,hv,Kd.R_mono hR fun k_ h=>⟨Or.inl h.1,h.2⟩⟩
 ·have c0_:((i0:Int) == -1)=false:=beq_eq_false_iff_ne.2 (by omega);have c1_:decide ((i0:Int)=-1)=false:=decide_eq_false (by omega);obtain⟨jn,ej⟩:∃ x:Int,wrap64 ((i0:Int)+1)=x:=⟨_,rfl⟩;have ejw:IntKind.i64.wrap ((i0:Int)+1)=jn:=(aE7 _).trans ej;have HJN:=Aside0.mk (show jn=((i0+1:Nat):Int) from by rw[← ej];unfold wrap64;omega);have HI0:=Aside0.mk hi0;have HBEF:=Aside0.mk hbef;have HAT:=Aside0.mk (hat HI0.out);clear hi0 hbef hat;go_wp2;go_loopw [5,6,7] (fun v5 v6 v7 wr=>∃ (i j:Nat) (cr:Array Value),v5 = .int .i64 (i:Int)∧v6 = .int .i64 (j:Int)∧Aside0 (i<j∧j≤rows.length∧(Cf.keptZ (aA6.pr k a0 es q) rows j).length=i)∧Aside0 (cr.size=cap∧wr.heap[g]? = some (.cells cr 26 (0,0)))∧Aside0 (Cf.Heads wr w0.heap.size ok f cr (Cf.keptZ (aA6.pr k a0 es q) rows j))∧Aside0 (∀ t,t<rows.length→j≤t→cr[t]? = cur[t]?)∧Aside0 (Below w0.heap.size w0 wr∧wr.heap[bg]? = some (.cells #[.int .i64 a0,.slice A0 es.length c0] 25 (0,0))∧wr.heap[bq]? = some (.cells #[.int .i64 q] 3 (0,0)))∧Aside0 (Cf.Heads wr w0.heap.size ok f cur rows.zipIdx)) (fun _ v _ _=>rows.length-(intOf v).toNat)
  case atStart =>
   (have hz:(Cf.keptZ (aA6.pr k a0 es q) rows (i0+1))=rows.zipIdx.take i0:=by rw[Cf.keptZ_succ _ HI0.out,if_pos HAT.out,List.append_nil];exact Cf.keptZ_pre _ rows (Nat.le_of_lt HI0.out) HBEF.out);refine⟨i0,i0+1,cur,rfl,by rw[HJN.out],⟨by omega,HI0.out,?_⟩,⟨HCAP.out.2.1,HI1.out.hc⟩,⟨?_⟩,⟨fun t _ _=>rfl⟩,⟨HI1.out.hb,HI1.out.hg,HI1.out.hq⟩,⟨HI1.out.hH⟩⟩
   ·rw[hz,List.length_take,List.length_zipIdx];have:=HI0.out;omega
   ·rw[hz];exact Cf.heads_take HI1.out.hH _
  case round =>
   clear HI1;obtain⟨i,j,cr,rfl,rfl,HIJ,HCR,HZ,HT,HB,HH⟩:=hrel;(have hij:(i:Int)<(j:Int):=by have:=HIJ.out;omega);(have hi0:(0:Int)≤(i:Int):=by omega);by_cases hlt:j<rows.length;rotate_left
   ·have d0:decide ((j:Int)<(rows.length:Int))=false:=decide_eq_false (by omega);have d1:decide (j<rows.length)=false:=decide_eq_false hlt;(have hjn:j=rows.length:=by have:=HIJ.out;omega);(have hin:i<rows.length:=by have:=HIJ.out;omega);(have hic:i<cap:=by have:=HCAP.out.1;omega);(have hil:i≤cap:=by omega);obtain⟨it,hit,hzt,hszt,hbt⟩:=info_parts aGh;have hcutl:=aA6.cutl (P:=Try.prog) 34 26 Try.underlying34 hit hszt g rows.length cap i (Nat.le_of_lt hin) hic;have hcuth:=aA6.cuth (P:=Try.prog) 34 26 Try.underlying34 hit hszt g rows.length cap i hil;(have hcl:∀ ty,(Builtin.clear_ #[34] ty #[.slice (some ⟨g,i,none⟩) (rows.length-i) (cap-i)]).run Try.prog wr = .ok (.tuple #[]) (wr.setCells g i (List.replicate (rows.length-i) (.slice none 0 0))):=fun ty=>Lib.run_clear_slice wr _ _ ty _ Try.underlying34 Try.zeroValue26 rfl rfl g i _ _ (by omega) (fun t ht=>by rw[blk_cell HCR.out.2,Array.getElem?_eq_getElem (show i+t<cr.size by have:=HCR.out.1;have:=HCAP.out.1;omega)];rfl) (fun t ht=>aA0 HCR.out.2 _));have HJ:=Aside0.mk hjn;have HIN:=Aside0.mk hin;clear hlt hit hzt hszt hbt hjn;go_wp2;go_ret;obtain⟨cu2,hc2,hs2,ht2⟩:=aHm (List.replicate (rows.length-i) (Value.slice none 0 0)) i wr cr HCR.out.2 (by rw[List.length_replicate];have:=HCR.out.1;have:=HCAP.out.1;have:=HIN.out;omega);(have hfar:∀ k_,k_≠g→(wr.setCells g i (List.replicate (rows.length-i) (Value.slice none 0 0))).heap[k_]? = wr.heap[k_]?:=fun k_ hk=>aHn _ i k_ hk);obtain⟨s1,s2,s3,s4⟩:=aH6 g (List.replicate (rows.length-i) (Value.slice none 0 0)) i wr;(have hlen:(rows.filter fun x => !aA6.pr k a0 es q x).length=i:=by rw[← Cf.keptZ_all,List.length_map,← HJ.out];exact HIJ.out.2.2);have hZ:=HZ.out;rw[HJ.out]at hZ;have hK:=Cf.kept_S (w:=wr.setCells g i (List.replicate (rows.length-i) (Value.slice none 0 0))) (base:=w0.heap.size) (g:=g) (cap:=cap) (ok:=fun k_=>ok k_∨k_=g) (f:=f) (cur:=cu2) (rows:=rows) (p:=aA6.pr k a0 es q) HBG.out (Or.inr rfl) HCAP.out.1 HCAP.out.2.2 (hs2.trans HCR.out.1) hc2 ?hh
    case hh =>
     have hcells:∀ t,t<(Cf.keptZ (aA6.pr k a0 es q) rows rows.length).length→cu2[t]? = cr[t]?:=by
      intro t ht;(have hti:t<i:=by have h_:=HIJ.out.2.2;rw[HJ.out]at h_;omega);rw[← Array.getElem?_toList,← Array.getElem?_toList,ht2,List.append_assoc,List.getElem?_append_left (by rw[List.length_take,Array.length_toList];have:=HCR.out.1;have:=HCAP.out.1;have:=HIN.out;omega),List.getElem?_take,if_pos hti]
     have h1:=Cf.heads_cells hZ hcells;(have h2:=Cf.heads_step (w1:=wr.setCells g i (List.replicate (rows.length-i) (Value.slice none 0 0))) h1 fun k_ h _=>hfar k_ (HOK.out k_ h));intro t x u ht;obtain⟨v,hv,hR⟩:=h2 t x u ht;exact⟨v,hv,Kd.R_mono hR fun k_ h=>⟨Or.inl h.1,h.2⟩⟩
    rw[hlen]at hK;refine⟨_,rfl,hK,⟨s1.trans HB.out.1.os,s2.trans HB.out.1.tape,s3.trans HB.out.1.output,by rw[s4];exact HB.out.1.size,fun k_ hk=>(hfar k_ (by have:=HBG.out;omega)).trans (HB.out.1.block k_ hk)⟩⟩
   have d0:decide ((j:Int)<(rows.length:Int))=true:=decide_eq_true (by omega);have d1:decide (j<rows.length)=true:=decide_eq_true hlt;(have p1:(0:Int)≤(j:Int):=by omega);(have p2:(j:Int)<(rows.length:Int):=by omega);(have p3:(i:Int)<(rows.length:Int):=by omega);obtain⟨v,hv,hR⟩:=HH.out j rows[j] j (by rw[List.getElem?_zipIdx,List.getElem?_eq_getElem hlt,Nat.zero_add];rfl);obtain⟨Ai,ci,ei⟩:=Kd.R_slice hR;subst ei;have hcell:wr.cell? ⟨g,j,none⟩=some (.slice Ai rows[j].length ci):=(blk_cell HCR.out.2 j).trans ((HT.out j hlt (Nat.le_refl _)).trans hv);obtain⟨r,hr⟩:=Option.isSome_iff_exists.1 (HP.out _ (List.getElem_mem hlt));have HRR:=Aside0.mk hr;have HRi:=Aside0.mk (Kd.R_reads' hR);have HRX:=Aside0.mk hR;have HLT:=Aside0.mk hlt;clear hv hR hr;generalize hx:rows[j]'HLT.out=x at hcell HRR HRi HRX;have HXX:=Aside0.mk hx;clear hx hlt;(go_wp2_with fail);refine(aA6.clo k a0 q es A0 c0 bg bq _ (Kd.C_below HE.out HB.out.1) HC.out HB.out.2.1 HB.out.2.2 _ _ x r HRi.out.2.2 HRi.out.2.1 HRR.out).mono ?_;rintro e w2 ⟨rfl,hb⟩;have HCR2:=Aside0.mk (show cr.size=cap∧w2.heap[g]? = some (.cells cr 26 (0,0)) from ⟨HCR.out.1,aA3 HCR.out.2 hb⟩);have HZ2:=Aside0.mk (Cf.heads_step HZ.out fun k_ _ hlt=>hb.block k_ hlt);have HH2:=Aside0.mk (Cf.heads_step HH.out fun k_ _ hlt=>hb.block k_ hlt);have HB2:=Aside0.mk (show Below w0.heap.size w0 w2∧w2.heap[bg]? = some (.cells #[.int .i64 a0,.slice A0 es.length c0] 25 (0,0))∧w2.heap[bq]? = some (.cells #[.int .i64 q] 3 (0,0)) from ⟨aA2 HB.out.1 hb,aA3 HB.out.2.1 hb,aA3 HB.out.2.2 hb⟩);have HRX2:=Aside0.mk (Kd.R_below HRX.out hb);clear hb hcell HCR HZ HH HB HRX
   cases hp:aA6.pr k a0 es q x with
   | true =>
    have HPP:=Aside0.mk hp;clear hp;go_wp2;go_roundw
    case rel =>
     (have hz:(Cf.keptZ (aA6.pr k a0 es q) rows (j+1))=(Cf.keptZ (aA6.pr k a0 es q) rows j):=by rw[Cf.keptZ_succ _ HLT.out,HXX.out,if_pos HPP.out,List.append_nil]);refine⟨i,j+1,cr,rfl,by go_num,⟨by have:=HIJ.out;omega,HLT.out,by rw[hz];exact HIJ.out.2.2⟩,HCR2,⟨by rw[hz];exact HZ2.out⟩,⟨fun t h1 h2=>HT.out t h1 (by omega)⟩,HB2,HH2⟩
    case measure =>
     have:=HLT.out;(simp[intOf]);omega
   | false =>
    have HPP:=Aside0.mk hp;clear hp;obtain⟨old,hold⟩:∃ old,cr[i]? = some old:=⟨_,Array.getElem?_eq_getElem (show i<cr.size by have:=HIJ.out;have:=HCR2.out.1;have:=HCAP.out.1;omega)⟩;have hzi:w2.cell? ⟨g,i,none⟩=some old:=(blk_cell HCR2.out.2 i).trans hold;have hfz:=aA0 HCR2.out.2 i;clear hold;go_wp2;go_roundw
    case rel =>
     clear hzi hfz;(have hz:(Cf.keptZ (aA6.pr k a0 es q) rows (j+1))=(Cf.keptZ (aA6.pr k a0 es q) rows j)++[(x,j)]:=by rw[Cf.keptZ_succ _ HLT.out,HXX.out,if_neg (by rw[HPP.out];simp)]);(have hset:∀ k_,ok k_→k_<w2.heap.size→(w2.setCell ⟨g,i,none⟩ (.slice Ai x.length ci)).heap[k_]? = w2.heap[k_]?:=fun k_ h _=>Below.heap_setCell w2 _ _ k_ (HOK.out k_ h));refine⟨i+1,j+1,cr.setIfInBounds i (.slice Ai x.length ci),by go_num,by go_num,⟨by have:=HIJ.out;omega,HLT.out,by rw[hz,List.length_append,HIJ.out.2.2];rfl⟩,⟨by rw[Array.size_setIfInBounds];exact HCR2.out.1,aF4 HCR2.out.2 i _⟩,⟨?_⟩,⟨fun t h1 h2=>?_⟩,⟨aAh HB2.out.1 HBG.out,aBv HB2.out.2.1 HNE.out.1 _,aBv HB2.out.2.2 HNE.out.2 _⟩,⟨Cf.heads_step HH2.out hset⟩⟩
     ·rw[hz];have h1:=Cf.heads_push HZ2.out (v:=.slice Ai x.length ci) (x:=x) (t:=j) (by have:=HIJ.out;have:=HCR2.out.1;have:=HCAP.out.1;omega) HRX2.out;rw[HIJ.out.2.2]at h1;exact Cf.heads_step h1 hset
     ·rw[Array.getElem?_setIfInBounds_ne (by have:=HIJ.out;omega)];exact HT.out t h1 (by omega)
    case measure =>
     have:=HLT.out;(simp[intOf]);omega
def aA6.cnt (k:Nat) (a0:Int) (es:List S57) (q:Int) (v:Nat):Nat:=if(v:Int)=q then 1 else((aAv.f k a0 es (v:Int)).getD 0).toNat
abbrev aA6.ok0 (k:Nat) (a0:Int) (es:List S57) (q:Int):Prop:=(0≤a0∧a0≤6)∧∀ v,v<a0.toNat→(aAv.f k a0 es (v:Int)).isSome=true∧0≤(aAv.f k a0 es (v:Int)).getD 0∧(aAv.f k a0 es (v:Int)).getD 0≤24
abbrev aA6.ok1 (k:Nat) (a0:Int) (es:List S57) (q:Int):Prop:=∀ x∈Cf.boxL (aA6.cnt k a0 es q) a0.toNat,(aAw.f k a0 es x q).isSome=true
def aA6.f (k:Nat) (a0:Int) (es:List S57) (q:Int):Option (List (List Int)):=if aA6.ok0 k a0 es q∧aA6.ok1 k a0 es q∧0<(Cf.boxL (aA6.cnt k a0 es q) a0.toNat).length then some ((Cf.boxL (aA6.cnt k a0 es q) a0.toNat).filter fun x => !aA6.pr k a0 es q x) else none
theorem aA6.val_up (k:Nat) {a0:Int} {es:List S57} {v:Int} (h:(aAv.f k a0 es v).isSome=true):aAv.f (k+1) a0 es v=aAv.f k a0 es v:=by
 obtain⟨b,hb⟩:=Option.isSome_iff_exists.1 h;rw[hb,aAv.mono _ _ _ k _ hb]
theorem aA6.burn_up (k:Nat) {a0 q:Int} {es:List S57} {x:List Int} (h:(aAw.f k a0 es x q).isSome=true):aAw.f (k+1) a0 es x q=aAw.f k a0 es x q:=by
 obtain⟨b,hb⟩:=Option.isSome_iff_exists.1 h;rw[hb,aAw.mono _ _ _ _ k _ hb]
theorem aA6.box_congr {c d:Nat→Nat}:∀ {n:Nat},(∀ v,v<n→c v=d v)→Cf.boxL c n=Cf.boxL d n
 | 0,_=>rfl
 | n+1,h=>by rw[Cf.boxL,Cf.boxL,aA6.box_congr fun v hv=>h v (by omega),h n (by omega)]
theorem aA6.mono:∀ a0 a1 a2 k,LeO (aA6.f k a0 a1 a2) (aA6.f (k+1) a0 a1 a2):=by
 intro a0 es q k r h;unfold aA6.f at h ⊢;(split at h);(case isFalse=>cases h);rename_i hc;(have e1:Cf.boxL (aA6.cnt (k+1) a0 es q) a0.toNat=Cf.boxL (aA6.cnt k a0 es q) a0.toNat:=aA6.box_congr fun v hv=>by unfold aA6.cnt;rw[aA6.val_up k (hc.1.2 v hv).1]);have h0:aA6.ok0 (k+1) a0 es q:=⟨hc.1.1,fun v hv=>by rw[aA6.val_up k (hc.1.2 v hv).1];exact hc.1.2 v hv⟩;(have h1:aA6.ok1 (k+1) a0 es q:=by unfold aA6.ok1;rw[e1];exact fun x hx=>by rw[aA6.burn_up k (hc.2.1 x hx)];exact hc.2.1 x hx);rw[if_pos ⟨h0,h1,by rw[e1];exact hc.2.2⟩,← h,e1];(congr 1);(refine List.filter_congr fun x hx=>?_);unfold aA6.pr;rw[aA6.burn_up k (hc.2.1 x hx)]
theorem aA6.calls (k:Nat) (aD:Int) (aI:Option Addr) (aG:Nat) (aC:List S57) (a1:Int) (r:List (List Int)) (w:World) (hr0_1:Kd.C k57 w aI aC.length aC) (hc0_1:aC.length≤aG) (h:aA6.f k aD aC a1=some r) :
  Calls Try.prog 49 #[.agg #[.int .i64 aD,.slice aI aC.length aG],.int .i64 a1] w fun e w'=>∃ v0_:Value,e = .returned (v0_)∧Kd.S (Kd.slice 3 (Kd.int .i64)) 26 w' w.heap.size (fun _=>True) v0_ r∧Below w.heap.size w w':=by
 have hu25:=Try.underlying25;have HE:=zK_ hr0_1;have HC:=zK_ hc0_1;clear hr0_1 hc0_1;unfold aA6.f at h;(split at h);(case isFalse=>cases h);rename_i hc;obtain rfl:=Option.some.inj h;clear h;obtain⟨⟨⟨hn0,hn6⟩,hv⟩,hbn,hpos⟩:=hc;obtain⟨n,rfl⟩:=Int.eq_ofNat_of_zero_le hn0;unfold aA6.ok1 at hbn;rw[Int.toNat_natCast]at hv hbn hpos ⊢;have HPOS:=zK_ hpos;clear hpos;have HV:=zK_ hv;have HBN:=zK_ hbn;have HN:=zK_ (show n≤6 from by omega);(have hcb:∀ u,u<n→aA6.cnt k (n:Int) aC a1 u≤24:=fun u hu=>by unfold aA6.cnt;split;omega;have:=(hv u hu).2.2;omega);(have hln:∀ v,v≤n→(Cf.boxL (aA6.cnt k (n:Int) aC a1) v).length≤191102976:=fun v hv=>Nat.le_trans (Cf.boxL_len (b:=24) fun u hu=>hcb u (by omega)) (Nat.pow_le_pow_right (by omega) (show v≤6 by omega)));(have hrow:∀ v x,x∈Cf.boxL (aA6.cnt k (n:Int) aC a1) v→x.length=v:=fun v x hx=>(Cf.boxL_row hx).1);have HCB:=zK_ hcb;have HLN:=zK_ hln;have HROW:=zK_ hrow;(have hmf:∀ (fn:Fn) (first cap:Array Value) (w:World),(Instr.makeFunc fn first cap).run Try.prog w = .ok (.func fn first cap) w:=fun _ _ _ _=>rfl);have hnb:(n:Int)≤6:=hn6;clear hn0 hn6 hv hbn hcb hln hrow;go_enter Try.func49,Try.ntmps49;(go_wp2_with (first|((with_reducible refine aAn (N:=2) rfl ?_);refine aAl ?hg (N:=2) ?hd (cs:=#[.int .i64 (n:Int),.slice aI aC.length aG]) (t:=25) ?hr ?_;(case hd=>rfl);(case hg=>rfl);(case hr=>exact aCp);intro bg hg w1 hbox hb;have BG1:=zK_ hbox;have HGG:=zK_ hg;have HB1:=zK_ hb;clear hg hbox hb)|((with_reducible refine aAn (N:=3) rfl ?_);refine aAl ?hg (N:=3) ?hd (cs:=#[.int .i64 a1]) (t:=3) ?hr ?_;(case hd=>rfl);(case hg=>rfl);(case hr=>exact aCp);intro bq hg w2 hbox hb;have BQ2:=zK_ hbox;have HQG:=zK_ hg;have BG2:=zK_ (aA3 BG1.out hb);have HB2:=zK_ (aA2 HB1.out hb);clear hg hbox hb)|((with_reducible refine aAn (N:=12) rfl ?_);refine Kd.S_lits (w0:=w2) (Kd.slice 3 (Kd.int .i64)) w2.heap.size 26 ?hg (N:=12) ?hd (xs:=([[]]:List (List Int))) (inner:=[.slice none 0 0]) (ok:=fun _=>True) (fun j k=>j=0) ?hr rfl ?hp (fun i j k hi hj=>hi.trans hj.symm) (fun _ _ _=>trivial) trivial (Below.refl _ _) (Nat.le_refl _) (by simp) ?_;(case hd=>rfl);(case hg=>rfl);(case hr=>exact aCp);(case hp=>exact fun j x hx=>match j,hx with|0,rfl=>Kd.M_row (Kd.R_nil _ _ _ _ _)|_+1,h_=>absurd h_ (by simp));intro v12 w3 ho hb hg_ hnew_;have HS3:=zK_ ho;have HB3:=zK_ hb;clear ho hb hg_ hnew_)));have HBOX:=zK_ (show bg<w2.heap.size∧bq<w2.heap.size from ⟨aC3 BG2.out,aC3 BQ2.out⟩);(go_loopw [5,6] (fun v5 v6 wr=>∃ v:Nat,v6 = .int .i64 (v:Int)∧Aside0 (v≤n)∧Aside0 (Below w2.heap.size w2 wr)∧Aside0 (Kd.S (Kd.slice 3 (Kd.int .i64)) 26 wr w2.heap.size (fun _=>True) v5 (Cf.boxL (aA6.cnt k (n:Int) aC a1) v))) (fun _ v _=>n-(intOf v).toNat));case atStart=>exact⟨0,rfl,⟨Nat.zero_le _⟩,HB3,HS3⟩
 case round =>
  clear HS3 HB3;obtain⟨v,rfl,HVN,HBr,HSr⟩:=hrel;have hz0:wr.cell? ⟨bg,0,none⟩=some (.int .i64 (n:Int)):=(blk_cell (aA3 BG2.out HBr.out) 0).trans rfl;have hz1:wr.cell? ⟨bg,1,none⟩=some (.slice aI aC.length aG):=(blk_cell (aA3 BG2.out HBr.out) 1).trans rfl;(have hvb:(v:Int)≤6:=by have:=HVN.out;omega);by_cases hvn:v<n;rotate_left
  ·have c0_:decide ((v:Int)<(n:Int))=false:=decide_eq_false (by omega);have c1_:decide (v<n)=false:=decide_eq_false hvn;(have hv:v=n:=by have:=HVN.out;omega);subst hv;clear hvn;obtain⟨g,cap,eg,_⟩:=Kd.S_form HSr.out HPOS.out;subst eg;obtain⟨f,cur,hbg,_,_,hncap,hcm,hcs,hc,hH⟩:=Cf.S_heads HSr.out;have hdel:=aA6.del k (v:Int) a1 aC aI aG bg bq g cap _ f cur _ w2 wr (Kd.C_below HE.out HB2.out) HC.out ⟨HBr.out,aA3 BG2.out HBr.out,aA3 BQ2.out HBr.out,hc,hH⟩ (Nat.le_trans (HLN.out v (Nat.le_refl _)) (by omega)) hncap HBN.out hcs hcm hbg (fun k_ h=>h.2) ⟨by have:=HBOX.out;omega,by have:=HBOX.out;omega⟩;have HDEL:=zK_ hdel;clear hdel hH hc hcs hcm hncap hbg;(go_wp2_with fail);refine HDEL.out.mono ?_;rintro e w9 ⟨v9,rfl,hS,hb⟩;obtain⟨A9,c9,e9⟩:=Kd.S_slice hS;subst e9;have HS9:=zK_ hS;have HB9:=zK_ hb;clear hS hb hz0 hz1;go_wp2;go_ret;exact⟨_,rfl,Kd.S_mono (Kd.S_lower HS9.out HB2.out.size) (fun _ _=>trivial),aA2 HB2.out HB9.out⟩
  have c0_:decide ((v:Int)<(n:Int))=true:=decide_eq_true (by omega);have c1_:decide (v<n)=true:=decide_eq_true hvn;obtain⟨L,hL⟩:∃ L,Cf.boxL (aA6.cnt k (n:Int) aC a1) v=L:=⟨_,rfl⟩;obtain⟨A5,c5,e5⟩:=Kd.S_slice HSr.out;subst e5;have hS:=HSr.out;rw[hL]at hS;have HLn:=zK_ (show L.length≤191102976 from by rw[← hL];exact HLN.out v (by omega));have HLR:=zK_ (show ∀ x∈L,x.length=v from fun x hx=>HROW.out v x (by rw[hL];exact hx));have HS:=zK_ hS;have HLL:=zK_ hL;rw[hL];clear hS HSr;obtain⟨hm0,hm1,hm2⟩:=HV.out v hvn;obtain⟨m,hm⟩:=Option.isSome_iff_exists.1 hm0;rw[hm]at hm1 hm2;simp only[Option.getD_some]at hm1 hm2;have HM:=zK_ hm;(have hcn:aA6.cnt k (n:Int) aC a1 v=if(v:Int)=a1 then 1 else m.toNat:=by unfold aA6.cnt;rw[hm];rfl);obtain⟨m1,em⟩:∃ x:Int,wrap64 (m-1)=x:=⟨_,rfl⟩;have emw:IntKind.i64.wrap (m-1)=m1:=(aE7 _).trans em;have HM1:=zK_ (show m1=m-1∧0≤m∧m≤24 from ⟨by rw[← em];unfold wrap64;omega,hm1,hm2⟩);have HVLT:=zK_ hvn;clear hm hm0 hm1 hm2 hL hvn;(go_wp2_with fail);refine(aAv.calls k (n:Int) _ _ aC (v:Int) m _ (Kd.C_below (Kd.C_below HE.out HB2.out) HBr.out) HC.out HM.out).mono ?_;rintro e w5 ⟨rfl,hb⟩;have HB5:=zK_ (aA2 HBr.out hb);have HS5:=zK_ (Kd.S_mono (Kd.S_bound (Kd.S_below HS.out hb)) (ok':=fun k_=>k_<w5.heap.size) fun k_ hk=>hk.2.2.1);clear hb hz0 hz1 HS HBr;have hq0:w5.cell? ⟨bq,0,none⟩=some (.int .i64 a1):=(blk_cell (aA3 BQ2.out HB5.out) 0).trans rfl;by_cases hvq:(v:Int)=a1
  ·have c4_:((v:Int)==a1)=true:=beq_iff_eq.2 hvq;have hcn2:aA6.cnt k (n:Int) aC a1 v=aA6.cnt k (n:Int) aC a1 v∧aA6.cnt k (n:Int) aC a1 v=1:=⟨rfl,by rw[hcn,if_pos hvq]⟩;have HCN:=zK_ (show aA6.cnt k (n:Int) aC a1 v=1∧(1:Nat)≤24 from ⟨hcn2.2,by omega⟩);clear hcn hcn2 hvq;(try go_wp2);(go_loopw [8,28] (fun v8 v28 wr=>∃ i:Nat,v28 = .int .i64 (i:Int)∧Aside0 (i≤L.length∧w5.heap.size≤wr.heap.size)∧Aside0 (Below w2.heap.size w2 wr)∧Aside0 (Kd.S (Kd.slice 3 (Kd.int .i64)) 26 wr w2.heap.size (fun k_=>k_<w5.heap.size) (.slice A5 L.length c5) L)∧Aside0 (Kd.S (Kd.slice 3 (Kd.int .i64)) 26 wr w2.heap.size (fun k_=>w5.heap.size≤k_) v8 (Cf.outB 1 L i))) (fun _ v _=>L.length-(intOf v).toNat));case atStart=>exact⟨0,rfl,⟨Nat.zero_le _,Nat.le_refl _⟩,HB5,HS5,⟨Kd.S_nil _ _ _ _ _⟩⟩
   case round =>
    clear HS5 hq0;obtain⟨i,rfl,HI,HBr,HLr,HSn⟩:=hrel;by_cases hlt:i<L.length;rotate_left
    ·have c2_:decide ((i:Int)<(L.length:Int))=false:=decide_eq_false (by omega);have c3_:decide (i<L.length)=false:=decide_eq_false hlt;(have hi:i=L.length:=by have:=HI.out;omega);subst hi;clear hlt;go_wp2;go_roundw
     case rel =>
      refine⟨v+1,by go_num,⟨HVLT.out⟩,HBr,⟨?_⟩⟩;have h1:=Cf.outB_all (aA6.cnt k (n:Int) aC a1) v;rw[HLL.out,HCN.out.1]at h1;rw[← h1];exact Kd.S_mono HSn.out fun _ _=>trivial
     case measure =>
      have:=HVLT.out;(simp[intOf]);omega
    have c2_:decide ((i:Int)<(L.length:Int))=true:=decide_eq_true (by omega);have c3_:decide (i<L.length)=true:=decide_eq_true hlt;obtain⟨x,hxi⟩:∃ x,L[i]? = some x:=⟨_,List.getElem?_eq_getElem hlt⟩;(have hx:aBp L (i:Int)=x:=by unfold aBp;rw[Int.toNat_natCast,List.getD_eq_getElem?_getD,hxi];rfl);(have p1:(0:Int)≤(i:Int):=by omega);(have p2:(i:Int)<(L.length:Int):=by omega);obtain⟨gL,_,_,eg,_,_,_⟩:=aG4 (Kd.S_reads' HLr.out).2.2 (i:Int) p1 p2;subst eg;obtain⟨cc,_,hM,hcell⟩:=Kd.S_get HLr.out ([]:List Int) (i:Int) p1 p2;obtain⟨vx,hvx,hRx⟩:=hM;subst hvx;replace hcell:=hcell 0 vx rfl;rw[show (L.getD ((i:Int)).toNat [])=x from hx]at hRx;(replace hRx:=Kd.R_mono hRx (ok':=fun k_=>k_<w5.heap.size) fun k_ hk=>hk.1);obtain⟨Ai,ci,ei⟩:=Kd.R_slice hRx;subst ei;rw[Int.toNat_natCast,show i*(Kd.slice 3 (Kd.int .i64)).sz+0=i from Nat.mul_one i]at hcell;have HRi:=zK_ hRx;clear hRx;(have hib:(i:Int)≤191102976:=by have:=HLn.out;omega);have HLT:=zK_ hlt;have HXI:=zK_ hxi;have HXL:=zK_ (show x.length=v from HLR.out x (List.mem_of_getElem? hxi));(have hxl:(x.length:Int)≤6:=by have:=HXL.out;have:=HVLT.out;have:=HN.out;omega);have CP:=zK_ (show aDj.f x=some x from by unfold aDj.f;rw[if_pos (by simp only[List.length_nil];omega)];rfl);clear hxi hlt hx;(try go_wp2);(go_loopw [8,11] (fun v8 v11 wi=>∃ j:Nat,v11 = .int .i64 (j:Int)∧Aside0 (j≤1∧w5.heap.size≤wi.heap.size)∧Aside0 (Below w2.heap.size w2 wi)∧Aside0 (Kd.S (Kd.slice 3 (Kd.int .i64)) 26 wi w2.heap.size (fun k_=>k_<w5.heap.size) (.slice (some gL) L.length c5) L)∧Aside0 (Kd.S (Kd.slice 3 (Kd.int .i64)) 26 wi w2.heap.size (fun k_=>w5.heap.size≤k_) v8 (Cf.outB 1 L i++Cf.extB j x))∧Aside0 (Kd.R (Kd.int .i64) 3 wi w2.heap.size (fun k_=>k_<w5.heap.size) (.slice Ai x.length ci) x)) (fun _ v _=>1-(intOf v).toNat));case atStart=>exact⟨0,rfl,⟨Nat.zero_le _,HI.out.2⟩,HBr,HLr,⟨by rw[Cf.extB_zero,List.append_nil];exact HSn.out⟩,HRi⟩
    case round =>
     obtain⟨j,rfl,HJ,HBi,HLi,HSi,HRj⟩:=hrel;(have hjb:(j:Int)≤24:=by have:=HJ.out;have:=HCN.out;omega);by_cases hj:j<1
     ·(obtain rfl:j=0:=by omega);have HJN:=zK_ hj;clear hj;have HLA:=zK_ (show (Cf.outB 1 L i++Cf.extB 0 x).length≤5000000000 from by rw[List.length_append,Cf.extB_len];have a1_:=Cf.outB_len 1 L i;have a2_:=HCN.out;have a3_:=HJ.out;have a4_:=Nat.mul_le_mul HLn.out (show 1≤24 by omega);omega);(go_wp2_with (first|((with_reducible refine aAb (f:=86) rfl ?_);refine aBd (some 39) rfl rfl Try.func86 (by kernel_rfl) rfl #[.slice Ai x.length ci] rfl (by(try simp only[List.map_toArray,List.map_cons,List.map_nil]);first|done|rfl) ?_;refine(aDj.calls _ _ x x _ (Kd.R_reads' HRj.out).2.2 (Kd.R_reads' HRj.out).2.1 CP.out).mono ?_;rintro e wA ⟨vA,rfl,hoA,hbA⟩;refine⟨_,rfl,?_⟩;have HOA:=zK_ hoA;have HBA:=zK_ hbA;clear hoA hbA)|((with_reducible refine aB4 (b:=.append) (xs:=#[.tmp 39,.tmp 41]) rfl ?_);at_builtin;refine Kd.R_append (Kd.int .i64) (w0:=wr) wr.heap.size rfl (.tmp 39) (.tmp 41) 26 3 (.int .i64 0) 8 rfl Try.underlying26 aDz rfl (by decide) (by omega) vA x (0:Int) [.int .i64 (0:Int)] (fun _=>True) (fun _=>False) rfl rfl rfl (fun _ hk=>hk.elim) (fun _ _=>trivial) HOA.out HBA.out (aAd HBA.out) (by have:=hxl;omega) ?_;intro vC wC ho hb hg hat;obtain⟨Ad,cd,ed⟩:=Kd.R_slice ho;subst ed;rw[show (x++[(0:Int)]).length=x.length+1 from List.length_append]at ho;have HD:=zK_ (Kd.R_mono (Kd.R_bound ho) (ok':=fun k_=>wr.heap.size≤k_) fun k_ hk=>hk.2.1);have HBC:=zK_ hb;clear ho hb hg hat)|((with_reducible refine aB4 (b:=.append) (xs:=#[.tmp 37,.tmp 43]) rfl ?_);at_builtin;refine Kd.S_append (Kd.slice 3 (Kd.int .i64)) (w0:=w2) w2.heap.size rfl (.tmp 37) (.tmp 43) 34 26 (.slice none 0 0) 24 rfl Try.underlying34 aGh rfl (by decide) (by omega) u8 (Cf.outB 1 L i++Cf.extB 0 x) (x++[(0:Int)]) [.slice Ad (x.length+1) cd] (fun k_=>w5.heap.size≤k_) (fun k_=>wr.heap.size≤k_) rfl rfl (Kd.M_row (Kd.R_lower HD.out (aAd HBi.out))) (fun k_ hk=>⟨by have:=HJ.out;omega,fun e=>by have:=Kd.S_lt HSi.out k_ e.symm;omega⟩) (fun k_ hk=>by have:=HJ.out;have:=HBC.out.size;omega) (Kd.S_mono (Kd.S_below (Kd.S_bound HSi.out) HBC.out) fun k_ hk=>⟨hk.1,fun h=>by have:=hk.2.2.1;omega⟩) (aA2 HBi.out HBC.out) (aAd (aA2 HBi.out HBC.out)) (by have:=HLA.out;omega) ?_;intro vE wE ho hb hg hat;have HOE:=zK_ ho;have HBE:=zK_ hb;have HLE:=zK_ (Kd.S_grown (Kd.S_below (Kd.S_bound HLi.out) HBC.out) hg fun k_ hk e=>by have:=HSi.out.choose_spec.1 k_ e.symm;have:=hk.1;omega);have HZE:=zK_ hg.size;have HRE:=zK_ (Kd.R_step (Kd.R_below HRj.out HBC.out) fun k_ hk hlt=>hg.block k_ hlt fun e=>by have:=HSi.out.choose_spec.1 k_ e.symm;omega);clear ho hb hg hat)));go_roundw
      case rel =>
       refine⟨0+1,by go_num,⟨by have:=HJN.out;omega,by have:=HBC.out.size;have:=HZE.out;have:=HJ.out;omega⟩,HBE,⟨Kd.S_mono HLE.out fun k_ hk=>hk.1⟩,⟨?_⟩,HRE⟩;rw[Cf.extB_succ,← List.append_assoc];exact HOE.out
      case measure =>
       have:=HJN.out;first|(simp[intOf];done)|(simp[intOf];omega)
     have hj2:=HJ.out;(have hjn:j=1:=by have:=HJ.out;omega);subst hjn;clear hj;go_wp2;go_roundw
     case rel =>
      refine⟨i+1,by go_num,⟨by have:=HLT.out;omega,HJ.out.2⟩,HBi,HLi,⟨?_⟩⟩;rw[Cf.outB_succ _ HXI.out];exact HSi.out
     case measure =>
      have:=HLT.out;(simp[intOf]);omega
  have c4_:((v:Int)==a1)=false:=beq_eq_false_iff_ne.2 hvq;have hcn2:aA6.cnt k (n:Int) aC a1 v=aA6.cnt k (n:Int) aC a1 v∧((aA6.cnt k (n:Int) aC a1 v:Nat):Int)=m1+1∧m1≤23:=⟨rfl,by rw[hcn,if_neg hvq];have:=HM1.out;omega,by have:=HM1.out;omega⟩;have HCN0:=zK_ hcn2;obtain⟨cn,hcn3⟩:∃ cn,aA6.cnt k (n:Int) aC a1 v=cn:=⟨_,rfl⟩;have HCN:=zK_ (show aA6.cnt k (n:Int) aC a1 v=cn∧cn≤24∧(cn:Int)=m1+1 from ⟨hcn3,by have:=HCN0.out.2;omega,by have:=HCN0.out.2;omega⟩);clear hcn hcn2 hvq hcn3 HCN0;(try go_wp2);(go_loopw [8,28] (fun v8 v28 wr=>∃ i:Nat,v28 = .int .i64 (i:Int)∧Aside0 (i≤L.length∧w5.heap.size≤wr.heap.size)∧Aside0 (Below w2.heap.size w2 wr)∧Aside0 (Kd.S (Kd.slice 3 (Kd.int .i64)) 26 wr w2.heap.size (fun k_=>k_<w5.heap.size) (.slice A5 L.length c5) L)∧Aside0 (Kd.S (Kd.slice 3 (Kd.int .i64)) 26 wr w2.heap.size (fun k_=>w5.heap.size≤k_) v8 (Cf.outB cn L i))) (fun _ v _=>L.length-(intOf v).toNat));case atStart=>exact⟨0,rfl,⟨Nat.zero_le _,Nat.le_refl _⟩,HB5,HS5,⟨Kd.S_nil _ _ _ _ _⟩⟩
  case round =>
   clear HS5 hq0;obtain⟨i,rfl,HI,HBr,HLr,HSn⟩:=hrel;by_cases hlt:i<L.length;rotate_left
   ·have c2_:decide ((i:Int)<(L.length:Int))=false:=decide_eq_false (by omega);have c3_:decide (i<L.length)=false:=decide_eq_false hlt;(have hi:i=L.length:=by have:=HI.out;omega);subst hi;clear hlt;go_wp2;go_roundw
    case rel =>
     refine⟨v+1,by go_num,⟨HVLT.out⟩,HBr,⟨?_⟩⟩;have h1:=Cf.outB_all (aA6.cnt k (n:Int) aC a1) v;rw[HLL.out,HCN.out.1]at h1;rw[← h1];exact Kd.S_mono HSn.out fun _ _=>trivial
    case measure =>
     have:=HVLT.out;(simp[intOf]);omega
   have c2_:decide ((i:Int)<(L.length:Int))=true:=decide_eq_true (by omega);have c3_:decide (i<L.length)=true:=decide_eq_true hlt;obtain⟨x,hxi⟩:∃ x,L[i]? = some x:=⟨_,List.getElem?_eq_getElem hlt⟩;(have hx:aBp L (i:Int)=x:=by unfold aBp;rw[Int.toNat_natCast,List.getD_eq_getElem?_getD,hxi];rfl);(have p1:(0:Int)≤(i:Int):=by omega);(have p2:(i:Int)<(L.length:Int):=by omega);obtain⟨gL,_,_,eg,_,_,_⟩:=aG4 (Kd.S_reads' HLr.out).2.2 (i:Int) p1 p2;subst eg;obtain⟨cc,_,hM,hcell⟩:=Kd.S_get HLr.out ([]:List Int) (i:Int) p1 p2;obtain⟨vx,hvx,hRx⟩:=hM;subst hvx;replace hcell:=hcell 0 vx rfl;rw[show (L.getD ((i:Int)).toNat [])=x from hx]at hRx;(replace hRx:=Kd.R_mono hRx (ok':=fun k_=>k_<w5.heap.size) fun k_ hk=>hk.1);obtain⟨Ai,ci,ei⟩:=Kd.R_slice hRx;subst ei;rw[Int.toNat_natCast,show i*(Kd.slice 3 (Kd.int .i64)).sz+0=i from Nat.mul_one i]at hcell;have HRi:=zK_ hRx;clear hRx;(have hib:(i:Int)≤191102976:=by have:=HLn.out;omega);have HLT:=zK_ hlt;have HXI:=zK_ hxi;have HXL:=zK_ (show x.length=v from HLR.out x (List.mem_of_getElem? hxi));(have hxl:(x.length:Int)≤6:=by have:=HXL.out;have:=HVLT.out;have:=HN.out;omega);have CP:=zK_ (show aDj.f x=some x from by unfold aDj.f;rw[if_pos (by simp only[List.length_nil];omega)];rfl);clear hxi hlt hx;(try go_wp2);(go_loopw [8,11] (fun v8 v11 wi=>∃ j:Nat,v11 = .int .i64 (j:Int)∧Aside0 (j≤cn∧w5.heap.size≤wi.heap.size)∧Aside0 (Below w2.heap.size w2 wi)∧Aside0 (Kd.S (Kd.slice 3 (Kd.int .i64)) 26 wi w2.heap.size (fun k_=>k_<w5.heap.size) (.slice (some gL) L.length c5) L)∧Aside0 (Kd.S (Kd.slice 3 (Kd.int .i64)) 26 wi w2.heap.size (fun k_=>w5.heap.size≤k_) v8 (Cf.outB cn L i++Cf.extB j x))∧Aside0 (Kd.R (Kd.int .i64) 3 wi w2.heap.size (fun k_=>k_<w5.heap.size) (.slice Ai x.length ci) x)) (fun _ v _=>cn-(intOf v).toNat));case atStart=>exact⟨0,rfl,⟨Nat.zero_le _,HI.out.2⟩,HBr,HLr,⟨by rw[Cf.extB_zero,List.append_nil];exact HSn.out⟩,HRi⟩
   case round =>
    obtain⟨j,rfl,HJ,HBi,HLi,HSi,HRj⟩:=hrel;(have hjb:(j:Int)≤24:=by have:=HJ.out;have:=HCN.out;omega);by_cases hj:j<cn
    ·have d0:decide ((j:Int)≤m1)=true:=decide_eq_true (by have:=HCN.out;omega);have HJN:=zK_ hj;clear hj;have HLA:=zK_ (show (Cf.outB cn L i++Cf.extB j x).length≤5000000000 from by rw[List.length_append,Cf.extB_len];have a1_:=Cf.outB_len cn L i;have a2_:=HCN.out;have a3_:=HJ.out;have a4_:=Nat.mul_le_mul HLn.out (show cn≤24 by omega);omega);(go_wp2_with (first|((with_reducible refine aAb (f:=86) rfl ?_);refine aBd (some 39) rfl rfl Try.func86 (by kernel_rfl) rfl #[.slice Ai x.length ci] rfl (by(try simp only[List.map_toArray,List.map_cons,List.map_nil]);first|done|rfl) ?_;refine(aDj.calls _ _ x x _ (Kd.R_reads' HRj.out).2.2 (Kd.R_reads' HRj.out).2.1 CP.out).mono ?_;rintro e wA ⟨vA,rfl,hoA,hbA⟩;refine⟨_,rfl,?_⟩;have HOA:=zK_ hoA;have HBA:=zK_ hbA;clear hoA hbA)|((with_reducible refine aB4 (b:=.append) (xs:=#[.tmp 39,.tmp 41]) rfl ?_);at_builtin;refine Kd.R_append (Kd.int .i64) (w0:=wr) wr.heap.size rfl (.tmp 39) (.tmp 41) 26 3 (.int .i64 0) 8 rfl Try.underlying26 aDz rfl (by decide) (by omega) vA x (j:Int) [.int .i64 (j:Int)] (fun _=>True) (fun _=>False) rfl rfl rfl (fun _ hk=>hk.elim) (fun _ _=>trivial) HOA.out HBA.out (aAd HBA.out) (by have:=hxl;omega) ?_;intro vC wC ho hb hg hat;obtain⟨Ad,cd,ed⟩:=Kd.R_slice ho;subst ed;rw[show (x++[(j:Int)]).length=x.length+1 from List.length_append]at ho;have HD:=zK_ (Kd.R_mono (Kd.R_bound ho) (ok':=fun k_=>wr.heap.size≤k_) fun k_ hk=>hk.2.1);have HBC:=zK_ hb;clear ho hb hg hat)|((with_reducible refine aB4 (b:=.append) (xs:=#[.tmp 37,.tmp 43]) rfl ?_);at_builtin;refine Kd.S_append (Kd.slice 3 (Kd.int .i64)) (w0:=w2) w2.heap.size rfl (.tmp 37) (.tmp 43) 34 26 (.slice none 0 0) 24 rfl Try.underlying34 aGh rfl (by decide) (by omega) u8 (Cf.outB cn L i++Cf.extB j x) (x++[(j:Int)]) [.slice Ad (x.length+1) cd] (fun k_=>w5.heap.size≤k_) (fun k_=>wr.heap.size≤k_) rfl rfl (Kd.M_row (Kd.R_lower HD.out (aAd HBi.out))) (fun k_ hk=>⟨by have:=HJ.out;omega,fun e=>by have:=Kd.S_lt HSi.out k_ e.symm;omega⟩) (fun k_ hk=>by have:=HJ.out;have:=HBC.out.size;omega) (Kd.S_mono (Kd.S_below (Kd.S_bound HSi.out) HBC.out) fun k_ hk=>⟨hk.1,fun h=>by have:=hk.2.2.1;omega⟩) (aA2 HBi.out HBC.out) (aAd (aA2 HBi.out HBC.out)) (by have:=HLA.out;omega) ?_;intro vE wE ho hb hg hat;have HOE:=zK_ ho;have HBE:=zK_ hb;have HLE:=zK_ (Kd.S_grown (Kd.S_below (Kd.S_bound HLi.out) HBC.out) hg fun k_ hk e=>by have:=HSi.out.choose_spec.1 k_ e.symm;have:=hk.1;omega);have HZE:=zK_ hg.size;have HRE:=zK_ (Kd.R_step (Kd.R_below HRj.out HBC.out) fun k_ hk hlt=>hg.block k_ hlt fun e=>by have:=HSi.out.choose_spec.1 k_ e.symm;omega);clear ho hb hg hat)));go_roundw
     case rel =>
      refine⟨j+1,by go_num,⟨by have:=HJN.out;omega,by have:=HBC.out.size;have:=HZE.out;have:=HJ.out;omega⟩,HBE,⟨Kd.S_mono HLE.out fun k_ hk=>hk.1⟩,⟨?_⟩,HRE⟩;rw[Cf.extB_succ,← List.append_assoc];exact HOE.out
     case measure =>
      have:=HJN.out;first|(simp[intOf];done)|(simp[intOf];omega)
    have d0:decide ((j:Int)≤m1)=false:=decide_eq_false (by have:=HCN.out;omega);(have hjn:j=cn:=by have:=HJ.out;omega);subst hjn;clear hj;go_wp2;go_roundw
    case rel =>
     refine⟨i+1,by go_num,⟨by have:=HLT.out;omega,HJ.out.2⟩,HBi,HLi,⟨?_⟩⟩;rw[Cf.outB_succ _ HXI.out];exact HSi.out
    case measure =>
     have:=HLT.out;(simp[intOf]);omega
def aBa.upS (q:Nat) (L:List (List Int)) (i:Nat):List (List Int):=(L.take i).map (fun x=>x.set q (-1))++L.drop i
theorem aBa.upS_len (q:Nat) (L:List (List Int)) (i:Nat):(aBa.upS q L i).length=L.length:=by unfold aBa.upS;rw[List.length_append,List.length_map,List.length_take,List.length_drop];omega
theorem aBa.upS_get (q:Nat) {L:List (List Int)} {i:Nat} (h:i<L.length):(aBa.upS q L i).getD i []=L[i]:=by
 unfold aBa.upS;rw[List.getD_eq_getElem?_getD,List.getElem?_append_right (by rw[List.length_map,List.length_take];omega),List.length_map,List.length_take,Nat.min_eq_left (by omega),Nat.sub_self,List.getElem?_drop,Nat.add_zero,List.getElem?_eq_getElem h];rfl
theorem aBa.upS_set (q:Nat) {L:List (List Int)} {i:Nat} (h:i<L.length):(aBa.upS q L i).set i (L[i].set q (-1))=aBa.upS q L (i+1):=by
 unfold aBa.upS;(have hl:((L.take i).map fun x=>x.set q (-1)).length=i:=by rw[List.length_map,List.length_take];omega);rw[List.set_append_right _ _ (by omega),hl,Nat.sub_self,List.drop_eq_getElem_cons h,List.set_cons_zero,List.take_succ_eq_append_getElem h,List.map_append,List.append_assoc];rfl
def aBa.f (k:Nat) (a0:Int) (es:List S57) (q:Int):Option (List (List Int)×Bool) :=
 (aCk.f a0 es q).bind fun t=>if t=true then(aCz.f k a0 es).bind fun c=>if c≤400 then(aA6.f k a0 es q).bind fun L=>if 0≤q∧(∀ x∈L,q<(x.length:Int)∧x.length≤1000000)∧L.length≤1000000000 then some (L.map (fun x=>x.set q.toNat (-1)),true) else none else some ([],false) else some ([],false)
theorem aBa.mono:∀ a0 a1 a2 k,LeO (aBa.f k a0 a1 a2) (aBa.f (k+1) a0 a1 a2):=by
 intro a0 a1 a2 k;unfold aBa.f;exact LeO.bind (LeO.refl _) fun t=>LeO.ite (LeO.bind (aCz.mono _ _ k) fun c=>LeO.ite (LeO.bind (aA6.mono _ _ _ k) fun _=>LeO.refl _) (LeO.refl _)) (LeO.refl _)
theorem aBa.calls (k:Nat) (aD:Int) (aI:Option Addr) (aG:Nat) (aC:List S57) (a1:Int) (r1:List (List Int)) (r2:Bool) (w:World) (hr0_1:Kd.C k57 w aI aC.length aC) (hc0_1:aC.length≤aG) (h:aBa.f k aD aC a1=some (r1,r2)) :
  Calls Try.prog 14 #[.agg #[.int .i64 aD,.slice aI aC.length aG],.int .i64 a1] w fun e w'=>∃ v0_:Value,e = .returned (.tuple #[v0_,.bool r2])∧Kd.S (Kd.slice 3 (Kd.int .i64)) 26 w' w.heap.size (fun _=>True) v0_ r1∧Below w.heap.size w w':=by
 have hu25:=Try.underlying25;have HE:=zK_ hr0_1;have HC:=zK_ hc0_1;clear hr0_1 hc0_1;unfold aBa.f at h;replace h:=zO_ h;obtain⟨t,ht,h⟩:=h;have HTT:=zK_ ht;clear ht
 cases t with
 | false =>
  rw[if_neg (by simp)]at h;obtain⟨rfl,rfl⟩:=Prod.mk.inj (Option.some.inj h);clear h;go_enter Try.func14,Try.ntmps14;(go_wp2_with (first|((with_reducible refine aAn (N:=2) rfl ?_);refine aAl ?hg (N:=2) ?hd (cs:=#[.int .i64 aD,.slice aI aC.length aG]) (t:=25) ?hr ?_;(case hd=>rfl);(case hg=>rfl);(case hr=>exact aCp);intro gg hg w1 hbox hb;have BG1:=zK_ hbox;have HB1:=zK_ hb;have hz0:w1.cell? ⟨gg,0,none⟩=some (.int .i64 aD):=(blk_cell BG1.out 0).trans rfl;have hz1:w1.cell? ⟨gg,1,none⟩=some (.slice aI aC.length aG):=(blk_cell BG1.out 1).trans rfl;clear hg hbox hb)));refine(aCk.calls aD _ _ aC a1 false _ (Kd.C_below HE.out HB1.out) HC.out HTT.out).mono ?_;rintro e w2 ⟨rfl,hb⟩;have BG2:=zK_ (aA3 BG1.out hb);have HB2:=zK_ (aA2 HB1.out hb);clear hb hz0 hz1;go_wp2;(go_ret2);exact⟨_,rfl,Kd.S_nil _ _ _ _ _,HB2.out⟩
 | true =>
  rw[if_pos rfl]at h;replace h:=zO_ h;obtain⟨c,hc,h⟩:=h;have HCT:=zK_ hc;clear hc;by_cases hle:c≤400;rotate_left
  ·rw[if_neg hle]at h;obtain⟨rfl,rfl⟩:=Prod.mk.inj (Option.some.inj h);clear h;have d0:decide (c>400)=true:=decide_eq_true (by omega);have d1:decide (400<c)=true:=decide_eq_true (by omega);go_enter Try.func14,Try.ntmps14;(go_wp2_with (first|((with_reducible refine aAn (N:=2) rfl ?_);refine aAl ?hg (N:=2) ?hd (cs:=#[.int .i64 aD,.slice aI aC.length aG]) (t:=25) ?hr ?_;(case hd=>rfl);(case hg=>rfl);(case hr=>exact aCp);intro gg hg w1 hbox hb;have BG1:=zK_ hbox;have HB1:=zK_ hb;have hz0:w1.cell? ⟨gg,0,none⟩=some (.int .i64 aD):=(blk_cell BG1.out 0).trans rfl;have hz1:w1.cell? ⟨gg,1,none⟩=some (.slice aI aC.length aG):=(blk_cell BG1.out 1).trans rfl;clear hg hbox hb)));refine(aCk.calls aD _ _ aC a1 true _ (Kd.C_below HE.out HB1.out) HC.out HTT.out).mono ?_;rintro e w2 ⟨rfl,hb⟩;have BG2:=zK_ (aA3 BG1.out hb);have HB2:=zK_ (aA2 HB1.out hb);clear hb hz0 hz1;have hz0:w2.cell? ⟨gg,0,none⟩=some (.int .i64 aD):=(blk_cell BG2.out 0).trans rfl;have hz1:w2.cell? ⟨gg,1,none⟩=some (.slice aI aC.length aG):=(blk_cell BG2.out 1).trans rfl;(go_wp2_with fail);refine(aCz.calls k aD _ _ aC c _ (Kd.C_below HE.out HB2.out) HC.out HCT.out).mono ?_;rintro e w3 ⟨rfl,hb⟩;have BG3:=zK_ (aA3 BG2.out hb);have HB3:=zK_ (aA2 HB2.out hb);clear hb hz0 hz1 BG2 BG1;go_wp2;(go_ret2);exact⟨_,rfl,Kd.S_nil _ _ _ _ _,HB3.out⟩
  rw[if_pos hle]at h;replace h:=zO_ h;obtain⟨L,hL,h⟩:=h;(split at h);(case isFalse=>cases h);rename_i hok;obtain⟨rfl,rfl⟩:=Prod.mk.inj (Option.some.inj h);clear h;obtain⟨hq0,hql,hLl⟩:=hok;obtain⟨q,rfl⟩:=Int.eq_ofNat_of_zero_le hq0;rw[Int.toNat_natCast];have HLL:=zK_ hL;have HQL:=zK_ hql;have HLn:=zK_ hLl;(have hnb:(L.length:Int)≤1000000000:=by omega);have d0:decide (c>400)=false:=decide_eq_false (by omega);have d1:decide (400<c)=false:=decide_eq_false (by omega);clear hq0 hql hLl hL hle;go_enter Try.func14,Try.ntmps14;(go_wp2_with (first|((with_reducible refine aAn (N:=2) rfl ?_);refine aAl ?hg (N:=2) ?hd (cs:=#[.int .i64 aD,.slice aI aC.length aG]) (t:=25) ?hr ?_;(case hd=>rfl);(case hg=>rfl);(case hr=>exact aCp);intro gg hg w1 hbox hb;have BG1:=zK_ hbox;have HB1:=zK_ hb;have hz0:w1.cell? ⟨gg,0,none⟩=some (.int .i64 aD):=(blk_cell BG1.out 0).trans rfl;have hz1:w1.cell? ⟨gg,1,none⟩=some (.slice aI aC.length aG):=(blk_cell BG1.out 1).trans rfl;clear hg hbox hb)));refine(aCk.calls aD _ _ aC (q:Int) true _ (Kd.C_below HE.out HB1.out) HC.out HTT.out).mono ?_;rintro e w2 ⟨rfl,hb⟩;have BG2:=zK_ (aA3 BG1.out hb);have HB2:=zK_ (aA2 HB1.out hb);clear hb hz0 hz1;have hz0:w2.cell? ⟨gg,0,none⟩=some (.int .i64 aD):=(blk_cell BG2.out 0).trans rfl;have hz1:w2.cell? ⟨gg,1,none⟩=some (.slice aI aC.length aG):=(blk_cell BG2.out 1).trans rfl;(go_wp2_with fail);refine(aCz.calls k aD _ _ aC c _ (Kd.C_below HE.out HB2.out) HC.out HCT.out).mono ?_;rintro e w3 ⟨rfl,hb⟩;have BG3:=zK_ (aA3 BG2.out hb);have HB3:=zK_ (aA2 HB2.out hb);clear hb hz0 hz1 BG2 BG1;have hz0:w3.cell? ⟨gg,0,none⟩=some (.int .i64 aD):=(blk_cell BG3.out 0).trans rfl;have hz1:w3.cell? ⟨gg,1,none⟩=some (.slice aI aC.length aG):=(blk_cell BG3.out 1).trans rfl;(go_wp2_with fail);refine(aA6.calls k aD _ _ aC (q:Int) L _ (Kd.C_below HE.out HB3.out) HC.out HLL.out).mono ?_;rintro e w4 ⟨v4,rfl,hS,hb⟩;have HB4:=zK_ (aA2 HB3.out hb);have hS4:=Kd.S_lower hS HB3.out.size;obtain⟨A,cA,eA⟩:=Kd.S_slice hS4;subst eA;have HS4:=zK_ hS4;clear hS hb hz0 hz1 hS4 BG3;(try go_wp2);(go_loopw [23] (fun v23 wr=>∃ i:Nat,v23 = .int .i64 (i:Int)∧Aside0 (i≤L.length)∧Aside0 (Below w.heap.size w wr)∧Aside0 (Kd.S (Kd.slice 3 (Kd.int .i64)) 26 wr w.heap.size (fun _=>True) (.slice A L.length cA) (aBa.upS q L i))) (fun v _=>L.length-(intOf v).toNat));case atStart=>exact⟨0,rfl,⟨Nat.zero_le _⟩,HB4,HS4⟩
  case round =>
   clear HS4 HB4;obtain⟨i,rfl,HI,HBr,HS⟩:=hrel;by_cases hlt:i<L.length;rotate_left
   ·have c0_:decide ((i:Int)<(L.length:Int))=false:=decide_eq_false (by omega);have c1_:decide (i<L.length)=false:=decide_eq_false hlt;(have hi:i=L.length:=by have:=HI.out;omega);subst hi;clear hlt;(have eU:aBa.upS q L L.length=L.map (fun x=>x.set q (-1)):=by unfold aBa.upS;rw[List.take_length,List.drop_length,List.append_nil]);have hS:=HS.out;rw[eU]at hS;have HS9:=zK_ hS;clear hS HS eU;go_wp2;(go_ret2);exact⟨_,rfl,HS9.out,HBr.out⟩
   have c0_:decide ((i:Int)<(L.length:Int))=true:=decide_eq_true (by omega);have c1_:decide (i<L.length)=true:=decide_eq_true hlt;(have p1:(0:Int)≤(i:Int):=by omega);(have p2:(i:Int)<(L.length:Int):=by omega);(have hib:(i:Int)≤1000000000:=by omega);have hS:=HS.out;rw[← aBa.upS_len q L i]at hS;obtain⟨g,cap,eg,_⟩:=Kd.S_form hS (by rw[aBa.upS_len];omega);injection eg with eA _ eC;subst eA;subst eC;rw[aBa.upS_len q L i]at hS;obtain⟨oki,cc,_,hM,hcell,hoki,hback⟩:=Kd.S_borrow hS ([]:List Int) (i:Int) p1 p2;obtain⟨vx,hvx,hRx⟩:=hM;subst hvx;replace hcell:=hcell 0 vx rfl;rw[Int.toNat_natCast,aBa.upS_get q hlt]at hRx;obtain⟨hxq,hxl⟩:=HQL.out _ (List.getElem_mem hlt);have hset:=aBa.upS_set q hlt;rw[Int.toNat_natCast]at hback;generalize L[i]=x at hRx hxq hxl hset;(have hxq2:q<x.length:=by omega);obtain⟨gr,cr,er,_⟩:=Kd.R_form hRx (by omega);subst er;rw[Int.toNat_natCast,show i*(Kd.slice 3 (Kd.int .i64)).sz+0=i from Nat.mul_one i,add_plain]at hcell;(have q1:(0:Int)≤(q:Int):=by omega);obtain⟨hmv,hmf⟩:=Kd.R_celln 0 hRx (q:Int) q1 hxq;have hput:=Kd.R_putg hRx (q:Int) (-1);rw[Int.toNat_natCast]at hmv hmf hput;have hokr:oki gr:=hRx.1 gr rfl;have HBK:=zK_ (hback (w1:=wr.setCell ⟨gr,q,none⟩ (.int .i64 (-1))) (x':=x.set q (-1)) hput.2 (fun k_ e=>by injection e with e;rw[← e];exact hokr) ⟨_,rfl,by have h_:=hput.1;exact h_⟩);have HGR:=zK_ (Kd.R_base hRx gr rfl);have HSET:=zK_ hset;have HLT:=zK_ hlt;clear hback hput hRx hS hoki hokr hset hlt;go_wp2;go_roundw
   case rel =>
    refine⟨i+1,by go_num,⟨HLT.out⟩,⟨aAh HBr.out HGR.out⟩,⟨?_⟩⟩;rw[← HSET.out];exact HBK.out
   case measure =>
    have:=HLT.out;(simp[intOf]);omega
mutual
def laws_FnParking.j0:Nat→List Int→List Int→Int→List Int→Bool→Int→List (S57)→Option (Bool)
 | 0,_,_,_,_,_,_,_=>none
 | k+1,x0,x4,x5,x6,N8,hY,hU=>if N8=true then(none) else((aAa.f k hY hU x6 x5).bind fun wS=>(if wS.2=true then((aCb.f k wS.1 x4).bind fun o7=>(laws_FnParking.j1 k x0 x5 (!o7) hY hU)) else(laws_FnParking.j1 k x0 x5 true hY hU)))
def laws_FnParking.j1:Nat→List Int→Int→Bool→Int→List (S57)→Option (Bool)
 | 0,_,_,_,_,_=>none
 | k+1,x0,x5,N7,hY,hU=>if N7=true then(none) else((aBa.f k hY hU x5).bind fun sS=>(if sS.2=true then(laws_FnParking.j2 k x0 x5 sS.1 ((sS.1.length:Int)==0) hY hU) else(laws_FnParking.j2 k x0 x5 sS.1 true hY hU)))
def laws_FnParking.j2:Nat→List Int→Int→List (List Int)→Bool→Int→List (S57)→Option (Bool)
 | 0,_,_,_,_,_,_=>none
 | k+1,x0,x5,fH,N6,hY,hU=>if N6=true then(none) else((aD5.f k x0 62).bind fun fV=>(if(fH.length:Int)=0 then(none) else(if 0≤(Int.tmod fV (fH.length:Int)) then(if(Int.tmod fV (fH.length:Int))<(fH.length:Int) then((aAa.f k hY hU (aBp fH (Int.tmod fV (fH.length:Int))) x5).bind fun oI=>((aAe.f k hY hU oI.1 x5).bind fun qT=>(if oI.2=true then(if qT.2=true then((aAy.f k hY hU oI.1).bind fun tE=>(if tE=true then((aCb.f k qT.1 (aBp fH (Int.tmod fV (fH.length:Int)))).bind fun tC=>(some tC)) else(none))) else(none)) else(none)))) else(none)) else(none))))
end
def laws_FnParking.f (k:Nat) (l0:List Int):Option (Bool):=if(l0.length:Int)>1048576 then(some true) else((aC1.f k l0).bind fun cD=>((aD5.f k l0 60).bind fun fJ=>(if cD.1=0 then(none) else((aAe.f k cD.1 cD.2.1 cD.2.2 (Int.tmod fJ cD.1)).bind fun iX=>(if iX.2=true then((aCc.f k cD.1 cD.2.1 iX.1 (Int.tmod fJ cD.1)).bind fun mX=>(laws_FnParking.j0 k l0 cD.2.2 (Int.tmod fJ cD.1) iX.1 (!mX) cD.1 cD.2.1)) else(laws_FnParking.j0 k l0 cD.2.2 (Int.tmod fJ cD.1) iX.1 true cD.1 cD.2.1))))))
theorem laws_FnParking.mono_l:∀ k,(∀ y0 y1 y2 y3 y4 y5 y6,LeO (laws_FnParking.j0 k y0 y1 y2 y3 y4 y5 y6) (laws_FnParking.j0 (k+1) y0 y1 y2 y3 y4 y5 y6))∧(∀ y0 y1 y2 y3 y4,LeO (laws_FnParking.j1 k y0 y1 y2 y3 y4) (laws_FnParking.j1 (k+1) y0 y1 y2 y3 y4))∧(∀ y0 y1 y2 y3 y4 y5,LeO (laws_FnParking.j2 k y0 y1 y2 y3 y4 y5) (laws_FnParking.j2 (k+1) y0 y1 y2 y3 y4 y5))
 | 0=>⟨fun _ _ _ _ _ _ _ r h=>by simp[laws_FnParking.j0]at h,fun _ _ _ _ _ r h=>by simp[laws_FnParking.j1]at h,fun _ _ _ _ _ _ r h=>by simp[laws_FnParking.j2]at h⟩
 | k+1=>by
  obtain⟨ih0,ih1,ih2⟩:=laws_FnParking.mono_l k
  refine⟨?_,?_,?_⟩
  ·intro y0 y1 y2 y3 y4 y5 y6
   unfold laws_FnParking.j0
   exact zm2
  ·intro y0 y1 y2 y3 y4
   unfold laws_FnParking.j1
   exact zm2
  ·intro y0 y1 y2 y3 y4 y5
   unfold laws_FnParking.j2
   exact zm2
theorem laws_FnParking.mono:∀ a0 k,LeO (laws_FnParking.f k a0) (laws_FnParking.f (k+1) a0):=by
 intro a0 k;obtain⟨ih0,ih1,ih2⟩:=laws_FnParking.mono_l k;unfold laws_FnParking.f;exact zm2
theorem laws_FnParking.calls (k:Nat) (A0:Option Addr) (c0:Nat) (l0:List Int) (r:Bool) (w:World) (hr0:Kd.C (Kd.int .u8) w A0 l0.length l0) (hc0:l0.length≤c0) (h:laws_FnParking.f k l0=some r) :
  Calls Try.prog 3 #[.slice A0 l0.length c0] w fun e w'=>e = .returned (.bool r)∧Below w.heap.size w w':=by
 have hu25:=Try.underlying25;have HR0:=zK_ hr0;have HC0:=zK_ hc0;clear hr0 hc0;have HB:=zK_ (Below.refl w.heap.size w);have H:(if(l0.length:Int)>1048576 then(some true) else((aC1.f k l0).bind fun cD=>((aD5.f k l0 60).bind fun fJ=>(if cD.1=0 then(none) else((aAe.f k cD.1 cD.2.1 cD.2.2 (Int.tmod fJ cD.1)).bind fun iX=>(if iX.2=true then((aCc.f k cD.1 cD.2.1 iX.1 (Int.tmod fJ cD.1)).bind fun mX=>(laws_FnParking.j0 k l0 cD.2.2 (Int.tmod fJ cD.1) iX.1 (!mX) cD.1 cD.2.1)) else(laws_FnParking.j0 k l0 cD.2.2 (Int.tmod fJ cD.1) iX.1 true cD.1 cD.2.1)))))))=some r:=h;clear h;by_cases c2:(l0.length:Int)>1048576
 ·rw[if_pos c2]at H;have mR:decide (1048576<(l0.length:Int))=true:=decide_eq_true c2;have nR:decide (1048576<l0.length)=true:=decide_eq_true (by omega);clear c2;obtain rfl:=Option.some.inj H;go_enter Try.func3,Try.ntmps3;go_wp2;go_ret;exact⟨zz9,zz2⟩
 rw[if_neg c2]at H;have mR:decide (1048576<(l0.length:Int))=false:=decide_eq_false c2;have nR:decide (1048576<l0.length)=false:=decide_eq_false (by omega);clear c2;replace H:=zO_ H;obtain⟨⟨bY,aW,dT⟩,A30,H⟩:=H;dsimp only at H;have A3:=zK_ A30;clear A30;obtain⟨fJ,A40,H⟩:=zO_ H;(try dsimp only at H);have A4:=zK_ A40;clear A40;by_cases c5:bY=0
 ·rw[if_pos c5]at H;exact absurd H (by simp)
 rw[if_neg c5]at H;have f7:(bY==0)=false:=beq_eq_false_iff_ne.mpr c5;have qN:(bY != 0)=true:=bne_iff_ne.mpr c5;replace H:=zO_ H;obtain⟨⟨gW,lB⟩,A60,H⟩:=H;dsimp only at H;have A6:=zK_ A60;clear A60;have HC7:=zK_ H;clear H;go_enter Try.func3,Try.ntmps3;(try go_wp2_with (first|((with_reducible refine aAb (f:=8) rfl ?_);refine aBd (some 22) rfl rfl Try.func8 (by kernel_rfl) rfl #[.slice A0 l0.length c0] rfl zz3 ?_;(with_reducible refine(aC1.calls k _ _ l0 bY aW dT _ ?side1 ?side2 A3.out).mono ?_);(case side1=>exact aTg);(case side2=>exact HC0.out);rintro e w8 ⟨v103,v106,rfl,ho0,ho1,hb⟩;refine⟨_,rfl,?_⟩;have n_:=zA3 (Kd.R_lower (Kd.R_mono (ok':=fun k_=>True) ho0 (fun _ hk_=>trivial)) (aAd zz2)) (Kd.V_lower (Kd.V_mono (ok':=fun k_=>some k_≠(v103:Value).ownBlock) ho1 (fun k_ hk_=>hk_.2)) (aAd zz2)) (aA2 zz2 hb);clear HB;obtain⟨dB,dQ,HB⟩:=n_;clear ho0 ho1 hb)|((with_reducible refine aAn (N:=3) rfl ?_);(try(refine aBi (by rfl) ?_;dsimp only));refine aAl ?hg (N:=3) ?hd (cs:=#[.int .i64 0,.slice none 0 0]) (t:=25) ?hr ?_;(case hd=>rfl);(case hg=>rfl);(case hr=>exact aCp);intro eD hg w9 hbox hb;have n_:=zA6 (Kd.R_below aO5 hb) (Kd.V_below (Kd.V_elderB (by(with_reducible repeat(first|apply Kd.V_alloc|apply Kd.V_drewN|apply Kd.V_drew));exact dQ.out) eD (Nat.le_of_eq hg.symm)) hb) (aA2 zz2 hb) hbox (aDi:w.heap.size≤eD) (aDi:w.heap.size≤eD);clear dB dQ HB;obtain⟨dB,dQ,HB,b7,GW108,GE108⟩:=n_;clear hb hbox hg;have eB:=aC7 b7;have d9:=aC6 b7;have d6:=aA0 b7.out 0;have d5:=aA0 b7.out 1;obtain⟨Ao11,co11,rJ⟩:=Kd.R_slice dB.out;subst rJ)));have n0_:Aside0 (Kd.R k57 57 ((w9.setCell ⟨eD,0,none⟩ (.int .i64 bY)).setCell ⟨eD,1,none⟩ (.slice Ao11 aW.length co11)) w.heap.size (fun _=>True) (.slice Ao11 aW.length co11) aW):=⟨by(with_reducible repeat(first|apply Kd.R_alloc|apply Kd.R_drewN|apply Kd.R_drew));exact Kd.R_mono (Kd.R_far (p:=⟨eD,1,none⟩) (Kd.R_far (p:=⟨eD,0,none⟩) (Kd.R_types dB.out b7.out (by decide)) (fun _ hk=>hk.2) (.int .i64 bY)) (fun _ hk=>hk.2) (.slice Ao11 aW.length co11)) (fun _ hk=>trivial)⟩;have n1_:Aside0 (Kd.V (Kd.int .i64) 3 ((w9.setCell ⟨eD,0,none⟩ (.int .i64 bY)).setCell ⟨eD,1,none⟩ (.slice Ao11 aW.length co11)) w.heap.size (fun k_=>some k_≠(.slice Ao11 aW.length co11:Value).ownBlock∧k_≠eD) v106 dT):=⟨by(with_reducible repeat(first|apply Kd.V_alloc|apply Kd.V_drewN|apply Kd.V_drew));exact Kd.V_mono (Kd.V_far (p:=⟨eD,1,none⟩) (Kd.V_far (p:=⟨eD,0,none⟩) (Kd.V_mono dQ.out (fun k_ hk=>(⟨hk,hk.2⟩:_∧k_≠eD))) (fun _ hk=>hk.2) (.int .i64 bY)) (fun _ hk=>hk.2) (.slice Ao11 aW.length co11)) (fun _ hk=>⟨hk.1.1,hk.1.2⟩)⟩;have n2_:Aside0 (((w9.setCell ⟨eD,0,none⟩ (.int .i64 bY)).setCell ⟨eD,1,none⟩ (.slice Ao11 aW.length co11)).heap[eD]? = some (.cells #[.int .i64 bY,.slice Ao11 aW.length co11] 25 (0,0))):=⟨by(with_reducible repeat(first|refine aA8 ?_ _|refine aA9 ?_|refine aA7 ?_ _));refine aCd (cs:=#[.int .i64 bY,.slice none 0 0]) ?_ 1 _ rfl;(with_reducible repeat(first|refine aA8 ?_ _|refine aA9 ?_|refine aA7 ?_ _));refine aCd (cs:=#[.int .i64 0,.slice none 0 0]) ?_ 0 _ rfl;(with_reducible repeat(first|refine aA8 ?_ _|refine aA9 ?_|refine aA7 ?_ _));exact b7.out⟩;have n3_:Aside0 (Below w.heap.size w ((w9.setCell ⟨eD,0,none⟩ (.int .i64 bY)).setCell ⟨eD,1,none⟩ (.slice Ao11 aW.length co11))):=⟨aIq⟩;(try clear dB);(try clear dQ);(try clear b7);(try clear HB);generalize ((w9.setCell ⟨eD,0,none⟩ (.int .i64 bY)).setCell ⟨eD,1,none⟩ (.slice Ao11 aW.length co11))=w12 at n0_ n1_ n2_ n3_ ⊢;have dB:=n0_;have dQ:=n1_;have b7:=n2_;have HB:=n3_;clear n0_ n1_ n2_ n3_;have n_:=zA4 (Kd.R_drew dB.out) (Kd.V_drew dQ.out) (aA9 b7.out) (aAs HB.out);clear dB dQ b7 HB;obtain⟨dB,dQ,b7,HB⟩:=n_;refine aE5 (n:=6) (S:=fun w'=>w'.cell? ⟨eD,0,none⟩=some (.int .i64 bY)∧w'.cell? ⟨eD,1,none⟩=some (.slice Ao11 aW.length co11)) (ds:=[]) (zM 6 0) (by kernel_rfl) rfl rfl ⟨(blk_cell b7.out 0).trans rfl,(blk_cell b7.out 1).trans rfl⟩ (fun hHeld=>?_);generalize w12.drew=w13 at dB dQ b7 HB hHeld ⊢;refine pure_ (i:=0) (N:=some 25) (v:=?_) (a':=?_) (zM 6 1) rfl rfl (by kernel_rfl) (fun _ _ _ h=>h) (Or.inl ⟨by rfl,?_⟩) ?_ ?_;rotate_left
 ·intro w';exact zzT
 rotate_left
 ·exact zzS
 refine pure_ (i:=2) (N:=some 27) (v:=?_) (a':=?_) (zM 6 5) rfl rfl (by kernel_rfl) (fun _ _ _ h=>h) (Or.inl ⟨by rfl,?_⟩) ?_ ?_;rotate_left
 ·intro w';exact zzT
 rotate_left
 ·exact zzS
 refine take_ (i:=3) (N:=some 28) (v:=?_) (a':=?_) (zM 6 13) rfl rfl (by kernel_rfl) (fun _ _ _ h=>h) (Or.inl ⟨by rfl,?_⟩) hHeld ?_ ?_;rotate_left
 ·rintro w' ⟨s0,s1⟩;exact zzT
 rotate_left
 ·exact zzS
 refine aFz (i:=1) (N:=some 26) (zM 6 15) rfl rfl (by kernel_rfl) (by decide) (fun K hK=>?_);refine aF2 Try.func9 (by kernel_rfl) rfl #[.slice A0 l0.length c0,.int .i64 60] (by rfl) rfl rfl zz3 ?_;(with_reducible refine(aD5.calls k _ _ l0 60 fJ _ ?side1 ?side2 A4.out).mono ?_);(case side1=>exact aVt);(case side2=>exact HC0.out);rintro e w14 ⟨rfl,hb⟩;refine⟨_,rfl,?_⟩;have n_:=zA4 (Kd.R_below aO5 hb) (Kd.V_below (by(with_reducible repeat(first|apply Kd.V_alloc|apply Kd.V_drewN|apply Kd.V_drew));exact dQ.out) hb) (aA3 (g:=eD) (o:=.cells #[.int .i64 bY,.slice Ao11 aW.length co11] 25 (0,0)) aLv hb) (aA2 aIq hb);clear dB dQ b7 HB;obtain⟨dB,dQ,b7,HB⟩:=n_;clear hb;refine hK.out _ _ ⟨(blk_cell b7.out 0).trans rfl,(blk_cell b7.out 1).trans rfl⟩ (fun hHeld=>?_);clear hK K;refine aDr (a':=?_) ?_ ?_;rotate_left
 ·show Act.put _ (some 26) _=_;exact zzS
 refine pure_ (i:=4) (N:=some 29) (v:=?_) (a':=?_) (zM 6 31) rfl rfl (by kernel_rfl) (fun _ _ _ h=>h) (Or.inl ⟨by rfl,?_⟩) ?_ ?_;rotate_left
 ·intro w';exact zzT
 rotate_left
 ·exact zzS
 refine pure_ (i:=5) (N:=some 5) (v:=?_) (a':=?_) (zM 6 63) rfl rfl (by kernel_rfl) (fun _ _ _ h=>h) (Or.inl ⟨by rfl,?_⟩) ?_ ?_;rotate_left
 ·intro w';exact zzT
 rotate_left
 ·exact zzS
 refine aEq (by kernel_rfl) ?_;have d8:=aC7 b7;have d7:=aC6 b7;have d4:=aA0 b7.out 0;have d3:=aA0 b7.out 1;obtain⟨Ao16,co16,pT⟩:=Kd.V_slice dQ.out;subst pT;(go_upto_region 6 with (first|((with_reducible refine aAb (f:=10) rfl ?_);refine aBd (some 34) rfl rfl Try.func10 (by kernel_rfl) rfl #[.agg #[.int .i64 bY,.slice Ao11 aW.length co11],.slice Ao16 dT.length co16,.int .i64 (Int.tmod fJ bY)] rfl zz3 ?_;(with_reducible refine(aAe.calls k bY _ _ aW _ _ dT (Int.tmod fJ bY) gW lB _ ?side1 ?side2 ?side3 ?side4 A6.out).mono ?_);(case side1=>exact aRo);(case side2=>exact(Kd.R_reads' dB.out).2.1);(case side3=>repeat(first|exact(Kd.V_reads' dQ.out).2.2|(with_reducible refine Kd.C_alloc ?_ _)|(with_reducible refine Kd.C_drewN ?_ _)|(with_reducible refine Kd.C_drew ?_)));(case side4=>exact(Kd.V_reads' dQ.out).2.1);rintro e w17 ⟨v111,rfl,ho0,hb⟩;refine⟨_,rfl,?_⟩;have n_:=zA5 (Kd.R_below aO5 hb) (Kd.V_elder' (by(with_reducible repeat(first|apply Kd.V_alloc|apply Kd.V_drewN|apply Kd.V_drew));exact dQ.out) (Kd.R_base ho0) hb) (Kd.R_lower ho0 (aAd aIq)) (aA3 (g:=eD) (o:=.cells #[.int .i64 bY,.slice Ao11 aW.length co11] 25 (0,0)) aLv hb) (aA2 aIq hb);clear dB dQ b7 HB;obtain⟨dB,dQ,i6,b7,HB⟩:=n_;clear ho0 hb)));(try simp only[Act.put,List.setIfInBounds_toArray,List.set_cons_zero,List.set_cons_succ]);go_cut [45] (fun v45 wc=>∃ (kq:Nat) (rL:Bool),v45 = .bool rL∧Aside0 (laws_FnParking.j0 kq l0 dT (Int.tmod fJ bY) gW rL bY aW=some r)∧Aside0 (kq≤k)∧Aside0 (Kd.V (Kd.int .i64) 3 wc w.heap.size (fun k_=>some k_≠(v111:Value).ownBlock∧some k_≠((.slice Ao11 aW.length co11):Value).ownBlock∧k_≠eD) (.slice Ao16 dT.length co16) dT)∧Aside0 (Kd.R (Kd.int .i64) 3 wc w.heap.size (fun _=>True) v111 gW)∧Aside0 (Kd.R k57 57 wc w.heap.size (fun _=>True) (.slice Ao11 aW.length co11) aW)∧Aside0 (wc.heap[eD]? = some (.cells #[.int .i64 bY,(.slice Ao11 aW.length co11)] 25 (0,0)))∧Aside0 (Below w.heap.size w wc))
 case first =>
  have H:=HC7.out;clear HC7;by_cases c18:lB=true;rotate_left
  ·replace c18:=Bool.eq_false_iff.mpr c18;subst c18;rw[if_neg (show ¬ (false=true) by decide)]at H;have H':=zK_ H;clear H;go_wp2;(go_meet);case rel=>exact⟨_,(true),zz6,H',⟨by first|omega|exact Nat.le_refl _⟩,⟨by(with_reducible repeat(first|apply Kd.V_alloc|apply Kd.V_drewN|apply Kd.V_drew));exact Kd.V_mono dQ.out (fun _ hk=>⟨hk.2,⟨hk.1.1,hk.1.2⟩⟩)⟩,⟨by(with_reducible repeat(first|apply Kd.R_alloc|apply Kd.R_drewN|apply Kd.R_drew));exact i6.out⟩,⟨aO5⟩,⟨aLv⟩,⟨aIq⟩⟩
  subst c18;rw[if_pos rfl]at H;obtain⟨mX,A190,H⟩:=zO_ H;(try dsimp only at H);have A19:=zK_ A190;clear A190;have H':=zK_ H;clear H;have lN:=aC7 b7;have lM:=aC6 b7;have lH:=aA0 b7.out 0;have lG:=aA0 b7.out 1;obtain⟨Ao21,co21,sV⟩:=Kd.R_slice i6.out;subst sV;(go_wp2_with (first|(go_at_call 11;(with_reducible refine(aCc.calls k bY _ _ aW _ _ gW (Int.tmod fJ bY) mX _ ?side1 ?side2 ?side3 ?side4 A19.out).mono ?_);(case side1=>exact aRo);(case side2=>exact(Kd.R_reads' dB.out).2.1);(case side3=>repeat(first|exact(Kd.R_reads' i6.out).2.2|(with_reducible refine Kd.C_alloc ?_ _)|(with_reducible refine Kd.C_drewN ?_ _)|(with_reducible refine Kd.C_drew ?_)));(case side4=>exact(Kd.R_reads' i6.out).2.1);rintro e w22 ⟨rfl,hb⟩;have n_:=zA5 (Kd.R_below aO5 hb) (Kd.V_below (by(with_reducible repeat(first|apply Kd.V_alloc|apply Kd.V_drewN|apply Kd.V_drew));exact dQ.out) hb) (Kd.R_below (by(with_reducible repeat(first|apply Kd.R_alloc|apply Kd.R_drewN|apply Kd.R_drew));exact i6.out) hb) (aA3 (g:=eD) (o:=.cells #[.int .i64 bY,.slice Ao11 aW.length co11] 25 (0,0)) aLv hb) (aA2 aIq hb);clear dB dQ i6 b7 HB;obtain⟨dB,dQ,i6,b7,HB⟩:=n_;(try clear hb);(try clear hb2);(try clear hk);(try clear hi))));(go_meet);case rel=>exact⟨_,(!mX),zz6,H',⟨by first|omega|exact Nat.le_refl _⟩,⟨by(with_reducible repeat(first|apply Kd.V_alloc|apply Kd.V_drewN|apply Kd.V_drew));exact Kd.V_mono dQ.out (fun _ hk=>⟨hk.2,⟨hk.1.1,hk.1.2⟩⟩)⟩,⟨by(with_reducible repeat(first|apply Kd.R_alloc|apply Kd.R_drewN|apply Kd.R_drew));exact i6.out⟩,⟨aO5⟩,⟨aLv⟩,⟨aIq⟩⟩
 case rest =>
  clear HC7;(try clear c1);(try clear c2);(try clear mR);(try clear nR);(try clear p2);(try clear c3);(try clear c5);(try clear f7);(try clear qN);(try clear c8);(try clear c9);(try clear c10);(try clear c18);(try clear eB);(try clear d9);(try clear d8);(try clear d7);(try clear lN);(try clear lM);(try clear d6);(try clear d5);(try clear d4);(try clear d3);(try clear lH);(try clear lG);obtain⟨kq,rL,rfl,HA,HJ6,mC,rK,cR,b7,HB⟩:=hcut
  cases kq with
  | zero=>exact absurd HA.out (by simp[laws_FnParking.j0])
  | succ kj6 =>
   have H:=HA.out;clear HA;simp only[laws_FnParking.j0]at H;by_cases c23:rL=true
   ·subst c23;rw[if_pos rfl]at H;exact absurd H (by simp)
   replace c23:=Bool.eq_false_iff.mpr c23;subst c23;rw[if_neg (show ¬ (false=true) by decide)]at H;replace H:=zO_ H;obtain⟨⟨uV,oC⟩,A240,H⟩:=H;dsimp only at H;have A24:=zK_ A240;clear A240;have HC25:=zK_ H;clear H;have kG:=aC7 b7;have kF:=aC6 b7;have j8:=aA0 b7.out 0;have j7:=aA0 b7.out 1;obtain⟨Ao27,co27,KU⟩:=Kd.R_slice rK.out;subst KU;(go_upto_region 9 with (first|((with_reducible refine aAb (f:=12) rfl ?_);refine aBd (some 50) rfl rfl Try.func12 (by kernel_rfl) rfl #[.agg #[.int .i64 bY,.slice Ao11 aW.length co11],.slice Ao27 gW.length co27,.int .i64 (Int.tmod fJ bY)] rfl zz3 ?_;(with_reducible refine(aAa.calls kj6 bY _ _ aW _ _ gW (Int.tmod fJ bY) uV oC _ ?side1 ?side2 ?side3 ?side4 A24.out).mono ?_);(case side1=>exact aWa);(case side2=>exact(Kd.R_reads' cR.out).2.1);(case side3=>repeat(first|exact(Kd.R_reads' rK.out).2.2|(with_reducible refine Kd.C_alloc ?_ _)|(with_reducible refine Kd.C_drewN ?_ _)|(with_reducible refine Kd.C_drew ?_)));(case side4=>exact(Kd.R_reads' rK.out).2.1);rintro e w28 ⟨v116,rfl,ho0,hb⟩;refine⟨_,rfl,?_⟩;have n_:=zA6 (Kd.V_elder' (by(with_reducible repeat(first|apply Kd.V_alloc|apply Kd.V_drewN|apply Kd.V_drew));exact mC.out) (Kd.R_base ho0) hb) (Kd.R_elder' (by(with_reducible repeat(first|apply Kd.R_alloc|apply Kd.R_drewN|apply Kd.R_drew));exact rK.out) (Kd.R_base ho0) hb) (Kd.R_below aIr hb) (Kd.R_lower (Kd.R_new' ho0 (Kd.R_lt (by(with_reducible repeat(first|apply Kd.R_alloc|apply Kd.R_drewN|apply Kd.R_drew));exact rK.out))) (aAd aIq)) (aA3 (g:=eD) (o:=.cells #[.int .i64 bY,.slice Ao11 aW.length co11] 25 (0,0)) aLv hb) (aA2 aIq hb);clear mC rK cR b7 HB;obtain⟨mC,rK,cR,oZ,b7,HB⟩:=n_;clear ho0 hb)));(try simp only[Act.put,List.setIfInBounds_toArray,List.set_cons_zero,List.set_cons_succ]);go_cut [60] (fun v60 wc=>∃ (kq:Nat) (o1:Bool),v60 = .bool o1∧Aside0 (laws_FnParking.j1 kq l0 (Int.tmod fJ bY) o1 bY aW=some r)∧Aside0 (kq≤kj6)∧Aside0 (Kd.R k57 57 wc w.heap.size (fun _=>True) (.slice Ao11 aW.length co11) aW)∧Aside0 (wc.heap[eD]? = some (.cells #[.int .i64 bY,(.slice Ao11 aW.length co11)] 25 (0,0)))∧Aside0 (Below w.heap.size w wc))
   case first =>
    have H:=HC25.out;clear HC25;by_cases c29:oC=true;rotate_left
    ·replace c29:=Bool.eq_false_iff.mpr c29;subst c29;rw[if_neg (show ¬ (false=true) by decide)]at H;have H':=zK_ H;clear H;go_wp2;(go_meet);case rel=>exact⟨_,(true),zz6,H',⟨by have:=HJ6.out;first|omega|exact Nat.le_refl _⟩,⟨aIr⟩,⟨aLv⟩,⟨aIq⟩⟩
    subst c29;rw[if_pos rfl]at H;obtain⟨o7,A300,H⟩:=zO_ H;(try dsimp only at H);have A30:=zK_ A300;clear A300;have H':=zK_ H;clear H;obtain⟨Ao31,co31,xG⟩:=Kd.R_slice oZ.out;subst xG;(go_wp2_with (first|(go_at_call 13;(with_reducible refine(aCb.calls kj6 _ _ uV _ _ dT o7 _ ?side1 ?side2 ?side3 ?side4 A30.out).mono ?_);(case side1=>repeat(first|exact(Kd.R_reads' oZ.out).2.2|(with_reducible refine Kd.C_alloc ?_ _)|(with_reducible refine Kd.C_drewN ?_ _)|(with_reducible refine Kd.C_drew ?_)));(case side2=>exact(Kd.R_reads' oZ.out).2.1);(case side3=>repeat(first|exact(Kd.V_reads' mC.out).2.2|(with_reducible refine Kd.C_alloc ?_ _)|(with_reducible refine Kd.C_drewN ?_ _)|(with_reducible refine Kd.C_drew ?_)));(case side4=>exact(Kd.V_reads' mC.out).2.1);rintro e w' ⟨rfl,⟨nd,rfl⟩⟩)));(go_meet);case rel=>exact⟨_,(!o7),zz6,H',⟨by have:=HJ6.out;first|omega|exact Nat.le_refl _⟩,⟨aIr⟩,⟨aLv⟩,⟨aIq⟩⟩
   case rest =>
    clear HC25;(try clear c1);(try clear c2);(try clear mR);(try clear nR);(try clear p2);(try clear c3);(try clear c5);(try clear f7);(try clear qN);(try clear c8);(try clear c9);(try clear c10);(try clear c12);(try clear c18);(try clear c23);(try clear c29);(try clear eB);(try clear d9);(try clear d8);(try clear d7);(try clear lN);(try clear lM);(try clear kG);(try clear kF);(try clear d6);(try clear d5);(try clear d4);(try clear d3);(try clear lH);(try clear lG);(try clear j8);(try clear j7);(try clear p2);obtain⟨kq,o1,rfl,HA,HJ24,cR,b7,HB⟩:=hcut
    cases kq with
    | zero=>exact absurd HA.out (by simp[laws_FnParking.j1])
    | succ kj24 =>
     have H:=HA.out;clear HA;simp only[laws_FnParking.j1]at H;by_cases c32:o1=true
     ·subst c32;rw[if_pos rfl]at H;exact absurd H (by simp)
     replace c32:=Bool.eq_false_iff.mpr c32;subst c32;rw[if_neg (show ¬ (false=true) by decide)]at H;replace H:=zO_ H;obtain⟨⟨kN,lA⟩,A330,H⟩:=H;dsimp only at H;have A33:=zK_ A330;clear A330;have HC34:=zK_ H;clear H;have kE:=aC7 b7;have kD:=aC6 b7;have j6:=aA0 b7.out 0;have j5:=aA0 b7.out 1;(go_upto_region 12 with (first|((with_reducible refine aAb (f:=14) rfl ?_);refine aBd (some 64) rfl rfl Try.func14 (by kernel_rfl) rfl #[.agg #[.int .i64 bY,.slice Ao11 aW.length co11],.int .i64 (Int.tmod fJ bY)] rfl zz3 ?_;(with_reducible refine(aBa.calls kj24 bY _ _ aW (Int.tmod fJ bY) kN lA _ ?side1 ?side2 A33.out).mono ?_);(case side1=>exact aWa);(case side2=>exact(Kd.R_reads' cR.out).2.1);rintro e w36 ⟨v121,rfl,ho0,hb⟩;refine⟨_,rfl,?_⟩;have n_:=zA4 (Kd.R_below aIr hb) (Kd.S_lower ho0 (aAd aIq)) (aA3 (g:=eD) (o:=.cells #[.int .i64 bY,.slice Ao11 aW.length co11] 25 (0,0)) aLv hb) (aA2 aIq hb);clear cR b7 HB;obtain⟨cR,uH,b7,HB⟩:=n_;clear ho0 hb)));(try simp only[Act.put,List.setIfInBounds_toArray,List.set_cons_zero,List.set_cons_succ]);go_cut [73] (fun v73 wc=>∃ (kq:Nat) (o0:Bool),v73 = .bool o0∧Aside0 (laws_FnParking.j2 kq l0 (Int.tmod fJ bY) kN o0 bY aW=some r)∧Aside0 (kq≤kj24)∧Aside0 (Kd.S (Kd.slice 3 (Kd.int .i64)) 26 wc w.heap.size (fun _=>True) v121 kN)∧Aside0 (Kd.R k57 57 wc w.heap.size (fun _=>True) (.slice Ao11 aW.length co11) aW)∧Aside0 (wc.heap[eD]? = some (.cells #[.int .i64 bY,(.slice Ao11 aW.length co11)] 25 (0,0)))∧Aside0 (Below w.heap.size w wc))
     case first =>
      have H:=HC34.out;clear HC34;by_cases c37:lA=true;rotate_left
      ·replace c37:=Bool.eq_false_iff.mpr c37;subst c37;rw[if_neg (show ¬ (false=true) by decide)]at H;have H':=zK_ H;clear H;go_wp2;(go_meet);case rel=>exact⟨_,(true),zz6,H',⟨by have:=HJ6.out;have:=HJ24.out;first|omega|exact Nat.le_refl _⟩,⟨by(with_reducible repeat(first|apply Kd.S_alloc|apply Kd.S_drewN|apply Kd.S_drew));exact uH.out⟩,⟨aIr⟩,⟨aLv⟩,⟨aIq⟩⟩
      subst c37;rw[if_pos rfl]at H;have H':=zK_ H;clear H;obtain⟨Ao38,co38,tY⟩:=Kd.S_slice uH.out;subst tY;go_wp2;(go_meet);case rel=>exact⟨_,(((kN.length:Int)==0)),zz6,H',⟨by have:=HJ6.out;have:=HJ24.out;first|omega|exact Nat.le_refl _⟩,⟨by(with_reducible repeat(first|apply Kd.S_alloc|apply Kd.S_drewN|apply Kd.S_drew));exact uH.out⟩,⟨aIr⟩,⟨aLv⟩,⟨aIq⟩⟩
     case rest =>
      clear HC34;(try clear c1);(try clear c2);(try clear mR);(try clear nR);(try clear p2);(try clear c3);(try clear c5);(try clear f7);(try clear qN);(try clear c8);(try clear c9);(try clear c10);(try clear c12);(try clear c14);(try clear c18);(try clear c23);(try clear c29);(try clear c32);(try clear c37);(try clear eB);(try clear d9);(try clear d8);(try clear d7);(try clear lN);(try clear lM);(try clear kG);(try clear kF);(try clear kE);(try clear kD);(try clear d6);(try clear d5);(try clear d4);(try clear d3);(try clear lH);(try clear lG);(try clear j8);(try clear j7);(try clear j6);(try clear j5);(try clear p2);obtain⟨kq,o0,rfl,HA,HJ33,i5,cR,b7,HB⟩:=hcut
      cases kq with
      | zero=>exact absurd HA.out (by simp[laws_FnParking.j2])
      | succ kj33 =>
       have H:=HA.out;clear HA;simp only[laws_FnParking.j2]at H;by_cases c39:o0=true
       ·subst c39;rw[if_pos rfl]at H;exact absurd H (by simp)
       replace c39:=Bool.eq_false_iff.mpr c39;subst c39;rw[if_neg (show ¬ (false=true) by decide)]at H;obtain⟨fV,A400,H⟩:=zO_ H;(try dsimp only at H);have A40:=zK_ A400;clear A400;by_cases c41:(kN.length:Int)=0
       ·rw[if_pos c41]at H;exact absurd H (by simp)
       rw[if_neg c41]at H;have N0:((kN.length:Int)==0)=false:=beq_eq_false_iff_ne.mpr c41;have NZ:((kN.length:Int) != 0)=true:=bne_iff_ne.mpr c41;(have NY:¬ (kN=[]):=fun h_=>c41 (by rw[h_];rfl));obtain⟨m3,qD⟩:∃ j_:Int,(Int.tmod fV (kN.length:Int))=j_:=⟨_,rfl⟩;(replace H:(if 0≤(m3) then(if(m3)<(kN.length:Int) then((aAa.f kj33 bY aW (aBp kN (m3)) (Int.tmod fJ bY)).bind fun oI=>((aAe.f kj33 bY aW oI.1 (Int.tmod fJ bY)).bind fun qT=>(if oI.2=true then(if qT.2=true then((aAy.f kj33 bY aW oI.1).bind fun tE=>(if tE=true then((aCb.f kj33 qT.1 (aBp kN (m3))).bind fun tC=>(some tC)) else(none))) else(none)) else(none)))) else(none)) else(none))=some r:=by first|(rw[qD]at H;exact H)|(simp only[qD]at H ⊢;exact H));(try rw[qD]at A40);by_cases c43:0≤(m3);rotate_left
       ·rw[if_neg c43]at H;exact absurd H (by simp)
       rw[if_pos c43]at H;have NX:=decide_eq_true c43;clear c43;by_cases c44:(m3)<(kN.length:Int);rotate_left
       ·rw[if_neg c44]at H;exact absurd H (by simp)
       rw[if_pos c44]at H;have NW:=decide_eq_true c44;clear c44;replace H:=zO_ H;obtain⟨⟨l6,xA⟩,A450,H⟩:=H;dsimp only at H;have A45:=zK_ A450;clear A450;replace H:=zO_ H;obtain⟨⟨uU,GE⟩,A460,H⟩:=H;dsimp only at H;have A46:=zK_ A460;clear A460;by_cases c47:xA=true;rotate_left
       ·replace c47:=Bool.eq_false_iff.mpr c47;subst c47;rw[if_neg (show ¬ (false=true) by decide)]at H;exact absurd H (by simp)
       subst c47;rw[if_pos rfl]at H;by_cases c48:GE=true;rotate_left
       ·replace c48:=Bool.eq_false_iff.mpr c48;subst c48;rw[if_neg (show ¬ (false=true) by decide)]at H;exact absurd H (by simp)
       subst c48;rw[if_pos rfl]at H;obtain⟨tE,A490,H⟩:=zO_ H;(try dsimp only at H);have A49:=zK_ A490;clear A490;by_cases c50:tE=true;rotate_left
       ·replace c50:=Bool.eq_false_iff.mpr c50;subst c50;rw[if_neg (show ¬ (false=true) by decide)]at H;exact absurd H (by simp)
       subst c50;rw[if_pos rfl]at H;obtain⟨tC,A510,H⟩:=zO_ H;(try dsimp only at H);have A51:=zK_ A510;clear A510;obtain rfl:=Option.some.inj H;(go_wp2_with (first|((with_reducible refine aAb (f:=9) rfl ?_);refine aBd (some 76) rfl rfl Try.func9 (by kernel_rfl) rfl #[.slice A0 l0.length c0,.int .i64 62] rfl zz3 ?_;(with_reducible refine(aD5.calls kj33 _ _ l0 62 fV _ ?side1 ?side2 A40.out).mono ?_);(case side1=>exact aVt);(case side2=>exact HC0.out);rintro e w52 ⟨rfl,hb⟩;refine⟨_,rfl,?_⟩;have n_:=zA4 (Kd.S_below (by(with_reducible repeat(first|apply Kd.S_alloc|apply Kd.S_drewN|apply Kd.S_drew));exact i5.out) hb) (Kd.R_below aIr hb) (aA3 (g:=eD) (o:=.cells #[.int .i64 bY,.slice Ao11 aW.length co11] 25 (0,0)) aLv hb) (aA2 aIq hb);clear i5 cR b7 HB;obtain⟨i5,cR,b7,HB⟩:=n_;clear hb;obtain⟨Ao53,co53,KQ⟩:=Kd.S_slice i5.out;subst KQ;have p125:0≤((m3):Int):=of_decide_eq_true zz4;have q125:(m3)<(kN.length:Int):=of_decide_eq_true zz4;obtain⟨N3,A125_0,c125_0,e125,uW,r5,hi125_0⟩:=aG4 (Kd.S_reads' i5.out).2.2 (m3) p125 q125;cases e125;obtain⟨ce125,hce125,hMe125,hcc125⟩:=Kd.S_get i5.out [] (m3) p125 (by first|exact q125|exact of_decide_eq_true zz4|(have e_:=(Kd.S_reads' i5.out).1;omega));obtain⟨ve125_0,rfl,ge125_0⟩:=hMe125;have hv125_0:=hcc125 0 _ rfl;rw[Nat.add_zero,show ((Kd.slice 3 (Kd.int .i64))).sz=1 from rfl,Nat.mul_one]at hv125_0;replace hv125_0:=Option.some.inj (hv125_0.symm.trans uW);rw[hv125_0]at ge125_0;have HL125_0:=zK_ (show Kd.R (Kd.int .i64) 3 _ _ _ _ (aBp kN (m3)) from ge125_0);clear hv125_0 ge125_0;clear hcc125 hce125;have HR125_0:=zK_ hi125_0;have HC125_0:=zK_ r5;clear hi125_0 r5;replace p125:=eq_true p125;replace q125:=eq_true q125;have F9:=aC7 b7;have F8:=aC6 b7;have E6:=aA0 b7.out 0;have E5:=aA0 b7.out 1)|((with_reducible refine aAb (f:=12) rfl ?_);refine aBd (some 86) rfl rfl Try.func12 (by kernel_rfl) rfl #[.agg #[.int .i64 bY,.slice Ao11 aW.length co11],.slice A125_0 (aBp kN (m3)).length c125_0,.int .i64 (Int.tmod fJ bY)] rfl (by(try simp only[List.map_toArray,List.map_cons,List.map_nil]);first|done|(simp only[qD];rfl)|rfl|(simp only[List.length_drop,List.length_take];rfl)) ?_;(with_reducible refine(aAa.calls kj33 bY _ _ aW _ _ (aBp kN (m3)) (Int.tmod fJ bY) l6 true _ ?side1 ?side2 ?side3 ?side4 A45.out).mono ?_);(case side1=>exact aWa);(case side2=>exact(Kd.R_reads' cR.out).2.1);(case side3=>repeat(first|exact aWc|(with_reducible refine Kd.C_alloc ?_ _)|(with_reducible refine Kd.C_drewN ?_ _)|(with_reducible refine Kd.C_drew ?_)));(case side4=>exact HC125_0.out);rintro e w55 ⟨v127,rfl,ho0,hb⟩;refine⟨_,rfl,?_⟩;have n_:=zA7 (Kd.S_elder' (by(with_reducible repeat(first|apply Kd.S_alloc|apply Kd.S_drewN|apply Kd.S_drew));exact i5.out) (Kd.R_base ho0) hb) (Kd.R_below aIr hb) (Kd.R_elder' aP2 (Kd.R_base ho0) hb) (Kd.R_lower (Kd.R_new' ho0 (Kd.R_lt aP2)) (aAd aIq)) (aA3 (g:=eD) (o:=.cells #[.int .i64 bY,.slice Ao11 aW.length co11] 25 (0,0)) aLv hb) (Kd.C_below aWc hb) (aA2 aIq hb);clear i5 cR HL125_0 b7 HR125_0 HB;obtain⟨i5,cR,HL125_0,lV,b7,HR125_0,HB⟩:=n_;clear ho0 hb;have F5:=aC7 b7;have F4:=aC6 b7;have E2:=aA0 b7.out 0;have E1:=aA0 b7.out 1;obtain⟨Ao57,co57,KO⟩:=Kd.R_slice lV.out;subst KO)|((with_reducible refine aAb (f:=10) rfl ?_);refine aBd (some 93) rfl rfl Try.func10 (by kernel_rfl) rfl #[.agg #[.int .i64 bY,.slice Ao11 aW.length co11],.slice Ao57 l6.length co57,.int .i64 (Int.tmod fJ bY)] rfl zz3 ?_;(with_reducible refine(aAe.calls kj33 bY _ _ aW _ _ l6 (Int.tmod fJ bY) uU true _ ?side1 ?side2 ?side3 ?side4 A46.out).mono ?_);(case side1=>exact aWa);(case side2=>exact(Kd.R_reads' cR.out).2.1);(case side3=>repeat(first|exact(Kd.R_reads' lV.out).2.2|(with_reducible refine Kd.C_alloc ?_ _)|(with_reducible refine Kd.C_drewN ?_ _)|(with_reducible refine Kd.C_drew ?_)));(case side4=>exact(Kd.R_reads' lV.out).2.1);rintro e w58 ⟨v131,rfl,ho0,hb⟩;refine⟨_,rfl,?_⟩;have n_:=zA8 (Kd.S_elder' (by(with_reducible repeat(first|apply Kd.S_alloc|apply Kd.S_drewN|apply Kd.S_drew));exact i5.out) (Kd.R_base ho0) hb) (Kd.R_below aIr hb) (Kd.R_elder' aP2 (Kd.R_base ho0) hb) (Kd.R_elder' (by(with_reducible repeat(first|apply Kd.R_alloc|apply Kd.R_drewN|apply Kd.R_drew));exact lV.out) (Kd.R_base ho0) hb) (Kd.R_lower (Kd.R_new' (Kd.R_new' ho0 (Kd.R_lt aP2)) (Kd.R_lt (by(with_reducible repeat(first|apply Kd.R_alloc|apply Kd.R_drewN|apply Kd.R_drew));exact lV.out))) (aAd aIq)) (aA3 (g:=eD) (o:=.cells #[.int .i64 bY,.slice Ao11 aW.length co11] 25 (0,0)) aLv hb) (Kd.C_below aWc hb) (aA2 aIq hb);clear i5 cR HL125_0 lV b7 HR125_0 HB;obtain⟨i5,cR,HL125_0,lV,oY,b7,HR125_0,HB⟩:=n_;clear ho0 hb;have vK:=aC7 b7;have vJ:=aC6 b7;have uY:=aA0 b7.out 0;have uX:=aA0 b7.out 1)|(go_at_call 15;(with_reducible refine(aAy.calls kj33 bY _ _ aW _ _ l6 true _ ?side1 ?side2 ?side3 ?side4 A49.out).mono ?_);(case side1=>exact aWa);(case side2=>exact(Kd.R_reads' cR.out).2.1);(case side3=>repeat(first|exact(Kd.R_reads' lV.out).2.2|(with_reducible refine Kd.C_alloc ?_ _)|(with_reducible refine Kd.C_drewN ?_ _)|(with_reducible refine Kd.C_drew ?_)));(case side4=>exact(Kd.R_reads' lV.out).2.1);rintro e w60 ⟨rfl,hb⟩;have n_:=zA8 (Kd.S_below (by(with_reducible repeat(first|apply Kd.S_alloc|apply Kd.S_drewN|apply Kd.S_drew));exact i5.out) hb) (Kd.R_below aIr hb) (Kd.R_below aP2 hb) (Kd.R_below (by(with_reducible repeat(first|apply Kd.R_alloc|apply Kd.R_drewN|apply Kd.R_drew));exact lV.out) hb) (Kd.R_below (by(with_reducible repeat(first|apply Kd.R_alloc|apply Kd.R_drewN|apply Kd.R_drew));exact oY.out) hb) (aA3 (g:=eD) (o:=.cells #[.int .i64 bY,.slice Ao11 aW.length co11] 25 (0,0)) aLv hb) (Kd.C_below aWc hb) (aA2 aIq hb);clear i5 cR HL125_0 lV oY b7 HR125_0 HB;obtain⟨i5,cR,HL125_0,lV,oY,b7,HR125_0,HB⟩:=n_;(try clear hb);(try clear hb2);(try clear hk);(try clear hi);obtain⟨Ao61,co61,KL⟩:=Kd.R_slice oY.out;subst KL)|(go_at_call 13;(with_reducible refine(aCb.calls kj33 _ _ uU _ _ (aBp kN (m3)) tC _ ?side1 ?side2 ?side3 ?side4 A51.out).mono ?_);(case side1=>repeat(first|exact(Kd.R_reads' oY.out).2.2|(with_reducible refine Kd.C_alloc ?_ _)|(with_reducible refine Kd.C_drewN ?_ _)|(with_reducible refine Kd.C_drew ?_)));(case side2=>exact(Kd.R_reads' oY.out).2.1);(case side3=>repeat(first|exact aWc|(with_reducible refine Kd.C_alloc ?_ _)|(with_reducible refine Kd.C_drewN ?_ _)|(with_reducible refine Kd.C_drew ?_)));(case side4=>exact HC125_0.out);rintro e w' ⟨rfl,⟨nd,rfl⟩⟩)));go_ret;exact⟨by first|rfl|(simp[aCm,aCl]<;>rfl)|(simp only[← qD];first|rfl|(simp[aCm,aCl]<;>rfl))|(simp[*,aCm,aCl]<;>rfl),aIq⟩
def laws_FnParking.Pure:Prop:=∀ (l0:List Int),l0.length≤maxLen→l0.length*1≤140737488351232→(∀ x∈l0,(Lit.int .u8 x).wf=true)→∃ k,laws_FnParking.f k l0=some true
theorem laws_FnParking.walk (P:laws_FnParking.Pure) (a0:Option Addr) (len0 cap0:Nat) (z0:List Int) (w:World) (w0:(a0=none∧len0=0∧cap0=0∧z0=[])∨∃ x,a0=some x∧len0≤cap0∧cap0≤maxLen∧z0.length=cap0∧(∀ i,i<z0.length→w.cell? (x.add i)=some (.int .u8 (z0.getD i 0)))∧∀ n∈z0,(Lit.int .u8 n).wf=true) (y0:len0*1≤140737488351232) :
  Calls Try.prog 3 #[.slice a0 len0 cap0] w fun e w'=>e = .returned (.bool true)∧Below w.heap.size w w':=by
 obtain⟨l0,rfl,hr0,hm0,hw0,hc0⟩:=aEd.ofRowC w0;obtain⟨k,h⟩:=P l0 hm0 y0 hw0;refine(laws_FnParking.calls k _ _ l0 true w (Kd.C_of_reads (d:=(0:Int)) (h1:=fun _=>rfl) hr0) hc0 h).mono ?_;rintro e w' ⟨rfl,hd⟩;exact⟨rfl,hd⟩
end Go.Proofs.Ytnbljcgdgblgoaa.P
end
section
namespace Go.Proofs.Ytnbljcgdgblgoaa.Cf
open Go.RowKit Go.Proofs.YtnbljcgdgblgoaaW.PrintWords Go.Proofs.Ytnbljcgdgblgoaa.P
theorem aHr {α:Type} {l:List α} {P:α→Prop} {i:Nat} (h:i<l.length):(∀ e∈l.drop i,P e)↔(P l[i]∧∀ e∈l.drop (i+1),P e):=by
 rw[List.drop_eq_getElem_cons h]
 simp only[List.mem_cons,forall_eq_or_imp]
theorem aG0 (n:Int) (es:List E):aC2.f n es=some (gOk n es):=rfl
theorem aK5 {n:Int} {es:List E} (h:gOk n es=true):GOk n es:=gOk_iff.1 h
theorem aQj {n:Int} {es:List E} (h:¬ gOk n es=true):¬ GOk n es:=fun x=>h (gOk_iff.2 x)
theorem aLm (a b:Int) (l:List Int) (hl:l.length≤1048576):∀ (d i:Nat),i+d=l.length→Ep (fun k=>aB3.l0 k a b l (l.length:Int) (i:Int)) (·=decide (∀ x∈l.drop i,a≤x∧x≤b)):=by
 intro d
 induction d with
 | zero =>
  intro i hi
  refine Ep.up ?_
  simp only[aB3.l0]
  refine Ep.neg (by omega) (Ep.now ?_)
  rw[List.drop_of_length_le (by omega)]
  simp
 | succ d ih =>
  intro i hi
  have hlt:i<l.length:=by omega
  refine Ep.up ?_
  simp only[aB3.l0]
  refine Ep.pos (by omega) (Ep.pos (by omega) (Ep.pos (by omega) ?_))
  rw[aEk hlt,aBw (by omega)]
  refine Ep.bind0 (aGz _ _ _) ?_
  refine Ep.ite (fun h=>?_) (fun h=>Ep.now ?_)
  ·have h':a≤l[i]∧l[i]≤b:=by simpa using h
   refine(ih (i+1) (by omega)).mono ?_
   rintro _ rfl
   simp only[aHr hlt,h',true_and]
  ·have h':¬ (a≤l[i]∧l[i]≤b):=by simpa using h
   simp only[aHr hlt,h',false_and,decide_false]
theorem aG5 (l:List Int) (a b:Int) (hl:l.length≤1048576):Ep (fun k=>aB3.f k l a b) (·=decide (∀ x∈l,a≤x∧x≤b)):=by
 have:=aLm a b l hl l.length 0 (by omega)
 simp only[aB3.f]
 rw[List.drop_zero]at this
 exact this
theorem aGs (n:Int) (es:List E) (v:Int) (hn:Wf .i64 n):aCk.f n es v=some (gOk n es&&decide (0≤v∧v<n)):=by
 unfold aCk.f
 rw[aG0]
 simp only[Option.bind_some]
 by_cases h:gOk n es=true
 ·have h1:=(aK5 h).1.1
  have h6:=(aK5 h).1.2.1
  rw[if_pos h,aC5 (by omega) (by omega),aGz,h]
  simp only[Option.bind_some,Bool.true_and]
  have:(0≤v∧v≤n-1)↔(0≤v∧v<n):=by omega
  simp only[this]
 ·rw[if_neg h]
  have:gOk n es=false:=by simpa using h
  rw[this]
  rfl
def At (es:List E) (k v:Int):Prop:=∃ j:Nat,k=j∧∃ h:j<es.length,es[j].f0=v∨es[j].f1=v
open Classical in
noncomputable def atB (es:List E) (k v:Int):Bool:=decide (At es k v)
theorem aV5 {es:List E} {k v:Int}:atB es k v=true↔At es k v:=by unfold atB;simp
theorem At.of {es:List E} {j:Nat} {v:Int} (hj:j<es.length):At es (j:Int) v↔(es[j].f0=v∨es[j].f1=v):=by
 constructor
 ·rintro⟨i,hi,h,hx⟩
  have:i=j:=by omega
  subst this
  exact hx
 ·intro h
  exact⟨j,rfl,hj,h⟩
theorem At.range {es:List E} {k v:Int} (h:At es k v):0≤k∧k<es.length:=by
 obtain⟨j,rfl,hj,_⟩:=h
 omega
end Go.Proofs.Ytnbljcgdgblgoaa.Cf
end
section
namespace Go.Proofs.Ytnbljcgdgblgoaa.Cf
open Go.RowKit Go.Proofs.YtnbljcgdgblgoaaW.PrintWords Go.Proofs.Ytnbljcgdgblgoaa.P
def aCf (es:List E) (l:List Int):List E:=l.map (fun k=>es.getD k.toNat ⟨0,0⟩)
def InR (es:List E) (l:List Int) (i:Nat):Prop:=∀ j,(h:j<l.length)→j<i→0≤l[j]∧l[j]<es.length
def Up (l:List Int) (i:Nat):Prop:=∀ j,(h:j+1<l.length)→j+1<i→l[j]<l[j+1]
theorem aHs {es:List E} {l:List Int} {i:Nat} (hi:i<l.length) {m:Nat} (hm:l[i]=m) (hl:m<es.length):aCf es (l.take (i+1))=aCf es (l.take i)++[es[m]]:=by
 unfold aCf
 rw[List.take_add_one,List.getElem?_eq_getElem hi,List.map_append]
 congr 1
 simp[hm,List.getD,hl]
theorem aHi {n:Int} {es:List E} {l:List Int} (hes:∀ e∈es,EOk n e) (hr:InR es l l.length):∀ e∈aCf es l,EOk n e:=by
 intro e he
 obtain⟨x,hx,rfl⟩:=List.mem_map.1 he
 obtain⟨j,hj,rfl⟩:=List.mem_iff_getElem.1 hx
 have:=hr j hj hj
 obtain⟨m,hm⟩:=Int.eq_ofNat_of_zero_le this.1
 rw[hm]
 have hml:m<es.length:=by omega
 simp only[Int.ofNat_eq_natCast,Int.toNat_natCast,List.getD,List.getElem?_eq_getElem hml,Option.getD_some]
 exact hes _ (List.getElem_mem hml)
theorem aOr (n:Int) (es:List E) (l:List Int) (hl:l.length≤1048576) (hr:InR es l l.length):∀ (d i:Nat),i+d=l.length→Ep (fun k=>aBo.l0 k (aCf es (l.take i)) l (l.length:Int) (i:Int) n es) (·=aCf es l):=by
 intro d
 induction d with
 | zero =>
  intro i hi
  refine Ep.up ?_
  simp only[aBo.l0]
  refine Ep.neg (by omega) (Ep.now ?_)
  rw[List.take_of_length_le (by omega)]
 | succ d ih =>
  intro i hi
  have hlt:i<l.length:=by omega
  have hx:=hr i hlt hlt
  obtain⟨m,hm⟩:=Int.eq_ofNat_of_zero_le hx.1
  have hml:m<es.length:=by omega
  refine Ep.up ?_
  simp only[aBo.l0]
  rw[aEk hlt,hm]
  refine Ep.pos (by omega) (Ep.pos (by omega) (Ep.pos (by omega) (Ep.pos (by omega) (Ep.pos (by omega) (Ep.pos ?_ ?_)))))
  ·simp[aCf];omega
  ·have:=ih (i+1) (by omega)
   rw[aHs hlt hm hml]at this
   rw[aC5 (by omega) (by omega)]
   have e:aA4 es ((m:Nat):Int)=es[m]:=aEb hml
   rw[e]
   exact this
theorem aJj (n:Int) (es:List E) (l:List Int) (hl:l.length≤1048576) (hr:InR es l l.length):Ep (fun k=>aBo.f k n es l) (·=aCf es l):=by
 simp only[aBo.f]
 exact aOr n es l hl hr l.length 0 (by omega)
theorem aKp (n:Nat) (hn:1≤n∧n≤6) (es:List E) (l:List Int) (hl:l.length≤12) (hes:∀ e∈es,EOk n e) (hr:InR es l l.length):∀ (d i:Nat),i+d=l.length→Ep (fun k=>aB6.l0 k l (l.length:Int) (i:Int) (n:Int) es (n:Int) (aCf es (l.take i))) (·=joinedB n (aCf es l)):=by
 intro d
 induction d with
 | zero =>
  intro i hi
  refine Ep.up ?_
  simp only[aB6.l0]
  refine Ep.neg (by omega) ?_
  rw[List.take_of_length_le (by omega)]
  refine Ep.bind (aKn n hn (aCf es l) (by simp[aCf];omega) (aHi hes hr)) ?_
  intro r hr
  refine Ep.now ?_
  rw[Bool.eq_iff_iff,joinedB_iff,← hr.1]
  simp only[beq_iff_eq]
  omega
 | succ d ih =>
  intro i hi
  have hlt:i<l.length:=by omega
  have hx:=hr i hlt hlt
  obtain⟨m,hm⟩:=Int.eq_ofNat_of_zero_le hx.1
  have hml:m<es.length:=by omega
  refine Ep.up ?_
  simp only[aB6.l0]
  rw[aEk hlt,hm]
  refine Ep.pos (by omega) (Ep.pos (by omega) (Ep.pos (by omega) (Ep.pos (by omega) (Ep.pos (by omega) (Ep.pos ?_ ?_)))))
  ·simp[aCf];omega
  ·have:=ih (i+1) (by omega)
   rw[aHs hlt hm hml]at this
   rw[aC5 (by omega) (by omega)]
   have e:aA4 es ((m:Nat):Int)=es[m]:=aEb hml
   rw[e]
   exact this
theorem aPo (n:Nat) (hn:1≤n∧n≤6) (es:List E) (l:List Int) (hl:l.length≤12) (hes:∀ e∈es,EOk n e) (hr:InR es l l.length):Ep (fun k=>aB6.f k (n:Int) es l) (·=joinedB n (aCf es l)):=by
 simp only[aB6.f]
 exact aKp n hn es l hl hes hr l.length 0 (by omega)
def aFl (n:Int) (es:List E) (l:List Int):Prop:=GOk n es∧(l.length:Int)=n-1∧InR es l l.length∧Up l l.length∧aEo n (aCf es l)
open Classical in
noncomputable def aHc (n:Int) (es:List E) (l:List Int):Bool:=decide (aFl n es l)
theorem aFr {n:Int} {es:List E} {l:List Int}:aHc n es l=true↔aFl n es l:=by unfold aHc;simp
theorem aIa {n:Int} {es:List E} {l:List Int} (h:¬ aFl n es l):false=aHc n es l:=by
 cases hb:aHc n es l with
 | false=>rfl
 | true=>exact absurd (aFr.1 hb) h
theorem aFq {n:Int} {es:List E} {l:List Int} (hg:GOk n es) (hl:(l.length:Int)=n-1) (hr:InR es l l.length) (hu:Up l l.length):joinedB n (aCf es l)=aHc n es l:=by
 rw[Bool.eq_iff_iff,joinedB_iff,aFr]
 exact⟨fun h=>⟨hg,hl,hr,hu,h⟩,fun h=>h.2.2.2.2⟩
theorem Up.next {l:List Int} {i:Nat} (h:Up l (i+1)) (hi:i+1<l.length) (hx:l[i]<l[i+1]):Up l (i+2):=by
 intro j hj hji
 by_cases e:j=i
 ·subst e;exact hx
 ·exact h j hj (by omega)
theorem aMg (n:Nat) (es:List E) (l:List Int) (hg:GOk n es) (hn:(l.length:Int)=(n:Int)-1) (hr:InR es l l.length):∀ (d i:Nat),l.length≤i+1+d→i≤l.length→Up l (i+1)→Ep (fun k=>aAy.l0 k l ((i+1:Nat):Int) (n:Int) es) (·=aHc n es l):=by
 have hg1:=hg.1
 unfold EsOk at hg1
 intro d
 induction d with
 | zero =>
  intro i hi hi2 hu
  refine Ep.up ?_
  simp only[aAy.l0]
  refine Ep.neg (by omega) ?_
  refine Ep.bind (aJj (n:Int) es l (by omega) hr) ?_
  rintro _ rfl
  refine Ep.bind (implConn n (by omega) (aCf es l) (by simp[aCf];omega) (aHi hg1.2.2.2 hr)) ?_
  rintro _ rfl
  exact Ep.now (aFq hg hn hr (fun j hj hji=>hu j hj (by omega)))
 | succ d ih =>
  intro i hi hi2 hu
  by_cases hlt:i+1<l.length
  ·refine Ep.up ?_
   simp only[aAy.l0]
   rw[aC5 (x:=((i+1:Nat):Int)-1) (by omega) (by omega),show ((i+1:Nat):Int)-1=(i:Int) by omega,aEk (show i<l.length by omega),aEk hlt]
   refine Ep.pos (by omega) (Ep.pos (by omega) (Ep.pos (by omega) (Ep.pos (by omega) (Ep.ite (fun h1=>Ep.now (aIa (fun x=>?_))) (fun h1=>?_)))))
   ·have:=x.2.2.2.1 i hlt hlt
    omega
   ·rw[aC5 (by omega) (by omega),show ((i+1:Nat):Int)+1=((i+1+1:Nat):Int) by omega]
    exact ih (i+1) (by omega) (by omega) (hu.next hlt (by omega))
  ·refine Ep.up ?_
   simp only[aAy.l0]
   refine Ep.neg (by omega) ?_
   refine Ep.bind (aJj (n:Int) es l (by omega) hr) ?_
   rintro _ rfl
   refine Ep.bind (implConn n (by omega) (aCf es l) (by simp[aCf];omega) (aHi hg1.2.2.2 hr)) ?_
   rintro _ rfl
   exact Ep.now (aFq hg hn hr (fun j hj hji=>hu j hj (by omega)))
theorem aNq (n:Int) (es:List E) (l:List Int) (hl:l.length≤1048576):Ep (fun k=>aAy.f k n es l) (·=aHc n es l):=by
 have no:¬ aFl n es l→Ep (fun k=>aAy.j0 k l true n es) (·=aHc n es l):=by
  intro h
  refine Ep.up ?_
  simp only[aAy.j0]
  exact Ep.pos trivial (Ep.now (aIa h))
 simp only[aAy.f]
 refine Ep.bind0 (aG0 n es) ?_
 refine Ep.ite (fun hg=>?_) (fun hg=>no (fun x=>aQj hg x.1))
 have hG:=aK5 hg
 have hG1:=hG.1
 unfold EsOk at hG1
 rw[aC5 (x:=n-1) (by omega) (by omega),aC5 (x:=(es.length:Int)-1) (by omega) (by omega)]
 obtain⟨m,rfl⟩:=Int.eq_ofNat_of_zero_le (a:=n) (by omega)
 refine Ep.ite (fun hn=>?_) (fun hn=>no (fun x=>hn x.2.1))
 refine Ep.bind (aG5 l _ _ hl) ?_
 rintro _ rfl
 by_cases ha:∀ x∈l,0≤x∧x≤(es.length:Int)-1
 ·have hr:InR es l l.length:=fun j hj _=>by
   have:=ha l[j] (List.getElem_mem hj)
   omega
  refine Ep.up ?_
  simp only[aAy.j0]
  refine Ep.neg (by simpa using ha) ?_
  exact aMg m es l hG hn hr l.length 0 (by omega) (by omega) (fun j hj hji=>by omega)
 ·have e:(!decide (∀ x∈l,0≤x∧x≤(es.length:Int)-1))=true:=by simpa using ha
  rw[e]
  exact no (fun x=>ha (fun y hy=>by
   obtain⟨j,hj,rfl⟩:=List.mem_iff_getElem.1 hy
   have:=x.2.2.1 j hj hj
   omega))
end Go.Proofs.Ytnbljcgdgblgoaa.Cf
end
section
namespace Go.Proofs.Ytnbljcgdgblgoaa.Cf
def aEp:Nat→(Nat→Int)→Int
 | 0,_=>0
 | n+1,f=>aEp n f+f n
def aH1 (es:List E) (f:E→Int):Int:=(es.map f).sum
theorem aDl (e:E) (r:List E) (f:E→Int):aH1 (e::r) f=f e+aH1 r f:=by simp[aH1]
theorem aDg {n:Nat} {f g:Nat→Int} (h:∀ i,i<n→f i=g i):aEp n f=aEp n g:=by
 induction n with
 | zero=>rfl
 | succ n ih=>simp only[aEp];rw[ih (fun i hi=>h i (by omega)),h n (by omega)]
theorem aPl {n:Nat} {f g:Nat→Int} (h:∀ i,i<n→f i≤g i):aEp n f≤aEp n g:=by
 induction n with
 | zero=>exact Int.le_refl _
 | succ n ih =>
  simp only[aEp]
  have:=ih (fun i hi=>h i (by omega))
  have:=h n (by omega)
  omega
theorem aG7 (n:Nat) (f g:Nat→Int):aEp n (fun i=>f i+g i)=aEp n f+aEp n g:=by
 induction n with
 | zero=>rfl
 | succ n ih=>simp only[aEp];rw[ih];omega
theorem aFa (n:Nat):aEp n (fun _=>0)=0:=by
 induction n with
 | zero=>rfl
 | succ n ih=>simp only[aEp];rw[ih];rfl
theorem aO9 (n:Nat) (c:Int):aEp n (fun _=>c)=n*c:=by
 induction n with
 | zero=>simp[aEp]
 | succ n ih=>simp only[aEp];rw[ih];rw[Int.natCast_succ,Int.add_mul];omega
theorem aH0 {n:Nat} (k:Nat) (hk:k<n) (c:Int):aEp n (fun i=>if i=k then c else 0)=c:=by
 induction n with
 | zero=>omega
 | succ n ih =>
  simp only[aEp]
  by_cases h:n=k
  ·subst h
   rw[if_pos rfl,aDg (g:=fun _=>0) (fun i hi=>by rw[if_neg (by omega)]),aFa]
   omega
  ·rw[ih (by omega),if_neg h]
   omega
theorem aG8 {es:List E} {f g:E→Int} (h:∀ e∈es,f e=g e):aH1 es f=aH1 es g:=by
 unfold aH1
 rw[List.map_congr_left h]
theorem aRu (es:List E) (f g:E→Int):aH1 es (fun e=>f e+g e)=aH1 es f+aH1 es g:=by
 induction es with
 | nil=>rfl
 | cons e r ih=>rw[aDl,aDl,aDl,ih];omega
theorem aJv {es:List E} {f g:E→Int} (h:∀ e∈es,f e≤g e):aH1 es f≤aH1 es g:=by
 induction es with
 | nil=>exact Int.le_refl _
 | cons e r ih =>
  rw[aDl,aDl]
  have:=ih (fun x hx=>h x (List.mem_cons_of_mem _ hx))
  have:=h e List.mem_cons_self
  omega
theorem aFu {es:List E} {f:E→Int} (h:∀ e∈es,f e=0):aH1 es f=0:=by
 induction es with
 | nil=>rfl
 | cons e r ih=>rw[aDl,ih (fun x hx=>h x (List.mem_cons_of_mem _ hx)),h e List.mem_cons_self];rfl
theorem aGl {es:List E} {f:E→Int} (h:∀ e∈es,0≤f e):0≤aH1 es f:=by
 have:=aJv (es:=es) (f:=fun _=>0) (g:=f) h
 rw[aFu (fun _ _=>rfl)]at this
 exact this
theorem aIb {es:List E} {f:E→Int} (h:∀ e∈es,0≤f e) {e:E} (he:e∈es):f e≤aH1 es f:=by
 induction es with
 | nil=>cases he
 | cons a r ih =>
  rw[aDl]
  have h0:=aGl (fun x hx=>h x (List.mem_cons_of_mem a hx))
  rcases List.mem_cons.1 he with rfl|he
  ·omega
  ·have:=ih (fun x hx=>h x (List.mem_cons_of_mem _ hx)) he
   have:=h a List.mem_cons_self
   omega
theorem aRs (es:List E) (f:E→Int):aH1 es (fun e=>- f e)=- aH1 es f:=by
 induction es with
 | nil=>rfl
 | cons e r ih=>rw[aDl,aDl,ih];omega
theorem aRt (es:List E) (c:Int) (f:E→Int):aH1 es (fun e=>c*f e)=c*aH1 es f:=by
 induction es with
 | nil=>simp[aH1]
 | cons e r ih=>rw[aDl,aDl,ih,Int.mul_add]
def aJc (s:Int→Int) (w:Int) (e:E):Int:=(if e.f0=w then s e.f0-s e.f1 else 0)+(if e.f1=w then s e.f1-s e.f0 else 0)
def lap (es:List E) (s:Int→Int) (w:Int):Int:=aH1 es (aJc s w)
def ind (P:Int→Bool) (v:Int):Int:=if P v then 1 else 0
def one (v:Int) (t:Int) (w:Int):Int:=if w=v then t else 0
theorem aQ6 (s:Int→Int) (w:Int):lap [] s w=0:=rfl
theorem aK1 (e:E) (r:List E) (s:Int→Int) (w:Int):lap (e::r) s w=aJc s w e+lap r s w:=aDl _ _ _
theorem aK2 (es:List E) (s t:Int→Int) (w:Int):lap es (fun v=>s v+t v) w=lap es s w+lap es t w:=by
 unfold lap
 rw[← aRu]
 apply aG8
 intro e _
 simp only[aJc]
 split<;>split<;>omega
theorem aMc (es:List E) (s:Int→Int) (w:Int):lap es (fun v=>- s v) w=- lap es s w:=by
 unfold lap
 rw[← aRs]
 apply aG8
 intro e _
 simp only[aJc]
 split<;>split<;>omega
theorem aMb (es:List E) (s t:Int→Int) (w:Int):lap es (fun v=>s v-t v) w=lap es s w-lap es t w:=by
 have:=aK2 es s (fun v=>- t v) w
 rw[aMc]at this
 rw[show (fun v=>s v-t v)=(fun v=>s v + - t v) from funext fun v=>by omega,this]
 omega
theorem aQ7 {n:Int} {es:List E} (hes:∀ e∈es,EOk n e) {s t:Int→Int} (h:∀ v,0≤v→v<n→s v=t v) (w:Int):lap es s w=lap es t w:=by
 apply aG8
 intro e he
 have hk:=hes e he
 unfold EOk at hk
 unfold aJc
 rw[h e.f0 (by omega) (by omega),h e.f1 (by omega) (by omega)]
theorem aIi {es:List E} {s:Int→Int} {c:Int} (h:∀ e∈es,s e.f0=c∧s e.f1=c) (w:Int):lap es s w=0:=by
 apply aFu
 intro e he
 unfold aJc
 rw[(h e he).1,(h e he).2]
 split<;>split<;>omega
theorem aQn {n:Nat} {es:List E} (hes:∀ e∈es,EOk n e) (f s:Int→Int):aEp n (fun i=>f i*lap es s i)=aH1 es (fun e=>(f e.f0-f e.f1)*(s e.f0-s e.f1)):=by
 induction es with
 | nil=>simp only[aQ6,Int.mul_zero];rw[aFa];rfl
 | cons e r ih =>
  have hk:=hes e List.mem_cons_self
  unfold EOk at hk
  rw[aDl,← ih (fun x hx=>hes x (List.mem_cons_of_mem _ hx))]
  have h1:aEp n (fun i=>f i*lap (e::r) s i)=aEp n (fun i=>f i*aJc s i e)+aEp n (fun i=>f i*lap r s i):=by
   rw[← aG7]
   apply aDg
   intro i _
   rw[aK1,Int.mul_add]
  rw[h1]
  congr 1
  have h2:aEp n (fun i=>f i*aJc s i e)=aEp n (fun i=>if i=e.f0.toNat then f e.f0*(s e.f0-s e.f1) else 0)+aEp n (fun i=>if i=e.f1.toNat then f e.f1*(s e.f1-s e.f0) else 0):=by
   rw[← aG7]
   apply aDg
   intro i _
   unfold aJc
   have c0:(e.f0=(i:Int))↔(i=e.f0.toNat):=by omega
   have c1:(e.f1=(i:Int))↔(i=e.f1.toNat):=by omega
   rw[Int.mul_add]
   congr 1
   ·by_cases h:e.f0=(i:Int)
    ·rw[if_pos h,if_pos (c0.1 h),h]
    ·rw[if_neg h,if_neg (fun x=>h (c0.2 x)),Int.mul_zero]
   ·by_cases h:e.f1=(i:Int)
    ·rw[if_pos h,if_pos (c1.1 h),h]
    ·rw[if_neg h,if_neg (fun x=>h (c1.2 x)),Int.mul_zero]
  rw[h2,aH0 _ (by omega),aH0 _ (by omega)]
  rw[show s e.f1-s e.f0=-(s e.f0-s e.f1) by omega,Int.mul_neg,Int.sub_mul]
  omega
theorem aUd {n:Nat} {es:List E} (hes:∀ e∈es,EOk n e) (s:Int→Int):aEp n (fun i=>lap es s i)=0:=by
 have:=aQn hes (fun _=>1) s
 simp only[Int.one_mul,Int.sub_self,Int.zero_mul]at this
 rw[this]
 exact aFu (fun _ _=>rfl)
def Red (n:Nat) (es:List E) (q:Int) (d:Int→Int):Prop :=
 (∀ v:Int,0≤v→v<n→v≠q→0≤d v)∧∀ S:Int→Bool,S q=false→(∃ v:Int,0≤v∧v<n∧S v=true)→∃ v:Int,0≤v∧v<n∧S v=true∧d v<lap es (ind S) v
theorem aOq {n:Nat} (h:0<n) (s:Int→Int):∃ m:Nat,m<n∧∀ v:Int,0≤v→v<n→s v≤s m:=by
 induction n with
 | zero=>omega
 | succ n ih =>
  by_cases h0:n=0
  ·subst h0
   exact⟨0,by omega,fun v h1 h2=>by rw[show v=((0:Nat):Int) by omega];exact Int.le_refl _⟩
  ·obtain⟨m,hm,hmax⟩:=ih (by omega)
   by_cases hc:s m≤s n
   ·refine⟨n,by omega,fun v h1 h2=>?_⟩
    by_cases e:v=n
    ·subst e;exact Int.le_refl _
    ·have:=hmax v h1 (by omega)
     omega
   ·refine⟨m,by omega,fun v h1 h2=>?_⟩
    by_cases e:v=n
    ·subst e;omega
    ·exact hmax v h1 (by omega)
theorem aUe {n:Int} {es:List E} (hes:∀ e∈es,EOk n e) {s:Int→Int} {M:Int} (hM:∀ v,0≤v→v<n→s v≤M) {v:Int} (hv:s v=M):lap es (ind (fun x=>decide (s x=M))) v≤lap es s v:=by
 apply aJv
 intro e he
 have hk:=hes e he
 unfold EOk at hk
 have h0:=hM e.f0 (by omega) (by omega)
 have h1:=hM e.f1 (by omega) (by omega)
 unfold aJc ind
 by_cases a:e.f0=v
 ·have a':s e.f0=M:=by rw[a];exact hv
  have b:¬ e.f1=v:=by omega
  rw[if_pos a,if_pos a,if_neg b,if_neg b]
  by_cases c:s e.f1=M
  ·simp[a',c]
  ·simp[a',c];omega
 ·rw[if_neg a,if_neg a]
  by_cases b:e.f1=v
  ·have b':s e.f1=M:=by rw[b];exact hv
   rw[if_pos b,if_pos b]
   by_cases c:s e.f0=M
   ·simp[b',c]
   ·simp[b',c];omega
  ·rw[if_neg b,if_neg b]
   exact Int.le_refl _
theorem aPv {n:Nat} {es:List E} (hes:∀ e∈es,EOk n e) {q:Int} (hq:0≤q∧q<n) {d d' s:Int→Int} (hd:Red n es q d) (hd':∀ v:Int,0≤v→v<n→v≠q→0≤d' v) (hs:∀ v:Int,0≤v→v<n→d' v=d v-lap es s v):∀ v:Int,0≤v→v<n→s v≤s q:=by
 obtain⟨m,hm,hmax⟩:=aOq (n:=n) (by omega) s
 by_cases hc:s m≤s q
 ·intro v h1 h2
  have:=hmax v h1 h2
  omega
 ·exfalso
  obtain⟨v,h1,h2,hS,hlt⟩:=hd.2 (fun x=>decide (s x=s m)) (by simp;omega) ⟨m,by omega,by omega,by simp⟩
  have hv:s v=s m:=by simpa using hS
  have hle:=aUe hes hmax hv
  have hvq:v≠q:=by rintro rfl;omega
  have:=hd' v h1 h2 hvq
  rw[hs v h1 h2]at this
  omega
theorem aOh {n:Nat} {es:List E} (hes:∀ e∈es,EOk n e) {q:Int} (hq:0≤q∧q<n) {d d' s:Int→Int} (hd:Red n es q d) (hd':Red n es q d') (hs:∀ v:Int,0≤v→v<n→d' v=d v-lap es s v) :
  (∀ v:Int,0≤v→v<n→s v=s q)∧∀ v:Int,0≤v→v<n→d' v=d v:=by
 have h1:=aPv hes hq hd hd'.1 hs
 have h2:=aPv (s:=fun v=>- s v) hes hq hd' hd.1 (fun v a b=>by rw[aMc,hs v a b];omega)
 have hc:∀ v:Int,0≤v→v<n→s v=s q:=fun v a b=>by
  have:=h1 v a b
  have:=h2 v a b
  omega
 refine⟨hc,fun v a b=>?_⟩
 rw[hs v a b,aIi (c:=s q) (fun e he=>?_)]
 ·omega
 ·have hk:=hes e he
  unfold EOk at hk
  exact⟨hc _ (by omega) (by omega),hc _ (by omega) (by omega)⟩
theorem aJg {es:List E} {S:Int→Prop} {a b:Int} (hab:aFe es a b) (ha:¬ S a) (hb:S b):∃ u w,Adj es u w∧S u∧¬ S w:=by
 induction hab with
 | refl=>exact absurd hb ha
 | @tail x y _ hadj ih =>
  by_cases hx:S x
  ·exact ih hx
  ·exact⟨y,x,hadj.symm,hb,hx⟩
def below (n:Nat) (s:Int→Int) (t:Int):Nat:=(List.range n).countP (fun i=>decide (s (i:Nat)<t))
def aM0 (v:Int) (e:E):Int:=if e.f0=v∨e.f1=v then 1 else 0
def val (es:List E) (v:Int):Int:=aH1 es (aM0 v)
def aGp (a b:Int) (e:E):Int:=if(e.f0=a∧e.f1=b)∨(e.f0=b∧e.f1=a) then 1 else 0
def mult (es:List E) (a b:Int):Int:=aH1 es (aGp a b)
theorem aJ4 (es:List E) (v:Int):0≤val es v:=aGl fun e _=>by unfold aM0;split<;>omega
theorem aEe (es:List E) (a b:Int):0≤mult es a b:=aGl fun e _=>by unfold aGp;split<;>omega
theorem aNa {es:List E} {f:E→Int} (h:∀ e∈es,f e≤1):aH1 es f≤es.length:=by
 induction es with
 | nil=>simp[aH1]
 | cons e r ih =>
  rw[aDl]
  have:=ih (fun x hx=>h x (List.mem_cons_of_mem _ hx))
  have:=h e List.mem_cons_self
  simp only[List.length_cons]
  omega
theorem aN1 (es:List E) (v:Int):val es v≤es.length:=aNa fun e _=>by unfold aM0;split<;>omega
theorem aGo (es:List E) (a b:Int):mult es a b≤es.length:=aNa fun e _=>by unfold aGp;split<;>omega
theorem aL6 {n:Int} {es:List E} (hes:∀ e∈es,EOk n e) (v t:Int):lap es (one v t) v=t*val es v:=by
 unfold lap val
 rw[← aRt]
 apply aG8
 intro e he
 have hk:=hes e he
 unfold EOk at hk
 unfold aJc aM0 one
 by_cases a:e.f0=v
 ·have b:¬ e.f1=v:=by omega
  simp[a,b]
 ·by_cases b:e.f1=v
  ·simp[a,b]
  ·simp[a,b]
theorem aTn {n:Nat} {es:List E} (hj:aEo n es) {q v:Int} (hq:0≤q∧q<n) (hv:0≤v∧v<n) (hne:v≠q):0<val es v:=by
 have hc:aFe es q v:=((hj q hq.1 hq.2).symm).trans (hj v hv.1 hv.2)
 obtain⟨u,w,⟨e,he,hx⟩,hu,hw⟩:=aJg (S:=fun x=>x=v) hc (fun h=>hne h.symm) rfl
 subst hu
 have h1:=aIb (f:=aM0 u) (fun e _=>by unfold aM0;split<;>omega) he
 have h2:aM0 u e=1:=by
  unfold aM0
  rw[if_pos]
  rcases hx with ⟨a,_⟩|⟨_,b⟩
  ·exact .inl a
  ·exact .inr b
 unfold val
 omega
inductive aLn (n:Nat) (es:List E) (q:Int) (p:Int→Int):(Int→Int)→Prop
 | zero:aLn n es q p (fun _=>0)
 | step {s:Int→Int} {v:Int}:aLn n es q p s→0≤v→v<n→v≠q→val es v≤p v-lap es s v→aLn n es q p (fun w=>s w+one v 1 w)
theorem aMd {es:List E} {r:Int→Int} {v:Int} (h:∀ w,0≤r w) (hv:r v=0):lap es r v≤0:=by
 have:=aJv (es:=es) (f:=aJc r v) (g:=fun _=>0) (fun e _=>by
  unfold aJc
  have h0:=h e.f0
  have h1:=h e.f1
  by_cases a:e.f0=v
  ·by_cases b:e.f1=v
   ·simp[a,b]
   ·rw[if_pos a,if_neg b,a,hv];omega
  ·by_cases b:e.f1=v
   ·rw[if_neg a,if_pos b,b,hv];omega
   ·rw[if_neg a,if_neg b];omega)
 rw[aFu (fun _ _=>rfl)]at this
 exact this
theorem aLn.nonneg {n:Nat} {es:List E} {q:Int} {p s:Int→Int} (h:aLn n es q p s):(∀ w,0≤s w)∧s q=0:=by
 induction h with
 | zero=>exact⟨fun _=>Int.le_refl _,rfl⟩
 | @step s v _ _ _ hq _ ih =>
  refine⟨fun w=>?_,?_⟩
  ·have:=ih.1 w
   show 0≤s w+one v 1 w
   unfold one
   split<;>omega
  ·have:=ih.2
   show s q+one v 1 q=0
   unfold one
   rw[if_neg (fun x:q=v=>hq x.symm)]
   omega
end Go.Proofs.Ytnbljcgdgblgoaa.Cf
end
section
namespace Go.Proofs.Ytnbljcgdgblgoaa.Cf
open Go.RowKit Go.Proofs.YtnbljcgdgblgoaaW.PrintWords Go.Proofs.Ytnbljcgdgblgoaa.P
def dOk (n:Int) (es:List E) (d:List Int):Bool:=gOk n es&&(decide ((d.length:Int)=n)&&decide (∀ x∈d,-60≤x∧x≤60))
theorem aK7 {n:Int} {es:List E} {d:List Int}:dOk n es d=true↔GOk n es∧(d.length:Int)=n∧∀ x∈d,-60≤x∧x≤60:=by
 unfold dOk
 simp only[Bool.and_eq_true,decide_eq_true_eq,gOk_iff]
theorem aUj (n:Int) (es:List E) (d:List Int) (hl:d.length≤1048576):Ep (fun k=>aCn.f k n es d) (·=dOk n es d):=by
 simp only[aCn.f,dOk]
 refine Ep.bind0 (aG0 n es) (Ep.ite (fun hg=>?_) (fun hg=>Ep.now ?_))
 ·refine Ep.ite (fun h=>?_) (fun h=>Ep.now ?_)
  ·refine Ep.bind (aG5 d (-60) 60 hl) ?_
   rintro _ rfl
   refine Ep.now ?_
   rw[hg]
   simp only[h,decide_true,Bool.true_and]
  ·simp[h]
 ·have:gOk n es=false:=by simpa using hg
  simp[this]
def aT0 (n:Int) (es:List E) (v:Int):Int:=if 0≤v∧v<n then val es v else 0
theorem aN2 {es:List E} {i:Nat} (h:i<es.length) (v:Int):val (es.drop i) v=aM0 v es[i]+val (es.drop (i+1)) v:=by
 rw[List.drop_eq_getElem_cons h]
 exact aDl _ _ _
theorem aKi (v:Int) (es:List E) (hl:es.length≤1048576):∀ (d i:Nat) (a:Int),i+d=es.length→0≤a→a≤i→Ep (fun k=>aBb.l0 k v a es (es.length:Int) (i:Int)) (·=a+val (es.drop i) v):=by
 intro d
 induction d with
 | zero =>
  intro i a hi h0 ha
  refine Ep.up ?_
  simp only[aBb.l0]
  refine Ep.neg (by omega) (Ep.now ?_)
  rw[List.drop_of_length_le (by omega)]
  simp[val,aH1]
 | succ d ih =>
  intro i a hi h0 ha
  have hlt:i<es.length:=by omega
  refine Ep.up ?_
  simp only[aBb.l0]
  refine Ep.pos (by omega) (Ep.pos (by omega) (Ep.pos (by omega) ?_))
  rw[aEb hlt,aBw (by omega),aC5 (x:=a+1) (by omega) (by omega),aN2 hlt]
  refine Ep.ite (fun h=>?_) (fun h=>Ep.ite (fun h2=>?_) (fun h2=>?_))
  ·refine(ih (i+1) (a+1) (by omega) (by omega) (by omega)).mono ?_
   rintro _ rfl
   unfold aM0
   rw[if_pos (.inl h)]
   omega
  ·refine(ih (i+1) (a+1) (by omega) (by omega) (by omega)).mono ?_
   rintro _ rfl
   unfold aM0
   rw[if_pos (.inr h2)]
   omega
  ·refine(ih (i+1) a (by omega) h0 (by omega)).mono ?_
   rintro _ rfl
   unfold aM0
   rw[if_neg (by rintro (x|x);exact h x;exact h2 x)]
   omega
theorem aM6 (n:Int) (es:List E) (v:Int) (hl:es.length≤1048576):Ep (fun k=>aBb.f k n es v) (·=aT0 n es v):=by
 have hv:aCj.f n es v=some (decide (0≤v∧v<n)):=by
  unfold aCj.f
  by_cases h:v≥0
  ·rw[if_pos h]
   have:(0≤v∧v<n)↔v<n:=⟨fun x=>x.2,fun x=>⟨h,x⟩⟩
   simp only[this]
  ·rw[if_neg h]
   have:¬ (0≤v∧v<n):=fun x=>h x.1
   simp only[this,decide_false]
 simp only[aBb.f,aT0]
 refine Ep.bind0 hv (Ep.ite (fun h=>?_) (fun h=>Ep.now ?_))
 ·refine(aKi v es hl es.length 0 0 (by omega) (by omega) (by omega)).mono ?_
  rintro _ rfl
  rw[if_pos (by simpa using h),List.drop_zero]
  omega
 ·rw[if_neg (by simpa using h)]
theorem aL9 (v:Int) (es:List E) (hl:es.length≤1048576):∀ (d i:Nat) (a:Int),i+d=es.length→0≤a→a≤i→Ep (fun k=>aAv.l0 k v a es (es.length:Int) (i:Int)) (·=a+val (es.drop i) v):=by
 intro d
 induction d with
 | zero =>
  intro i a hi h0 ha
  refine Ep.up ?_
  simp only[aAv.l0]
  refine Ep.neg (by omega) (Ep.now ?_)
  rw[List.drop_of_length_le (by omega)]
  simp[val,aH1]
 | succ d ih =>
  intro i a hi h0 ha
  have hlt:i<es.length:=by omega
  refine Ep.up ?_
  simp only[aAv.l0]
  refine Ep.pos (by omega) (Ep.pos (by omega) (Ep.pos (by omega) ?_))
  rw[aEb hlt,aBw (by omega),aC5 (x:=a+1) (by omega) (by omega),aN2 hlt]
  refine Ep.ite (fun h=>?_) (fun h=>Ep.ite (fun h2=>?_) (fun h2=>?_))
  ·refine(ih (i+1) (a+1) (by omega) (by omega) (by omega)).mono ?_
   rintro _ rfl
   unfold aM0
   rw[if_pos (.inl h)]
   omega
  ·refine(ih (i+1) (a+1) (by omega) (by omega) (by omega)).mono ?_
   rintro _ rfl
   unfold aM0
   rw[if_pos (.inr h2)]
   omega
  ·refine(ih (i+1) a (by omega) h0 (by omega)).mono ?_
   rintro _ rfl
   unfold aM0
   rw[if_neg (by rintro (x|x);exact h x;exact h2 x)]
   omega
theorem aIj (n:Int) (es:List E) (v:Int) (hl:es.length≤1048576):Ep (fun k=>aAv.f k n es v) (·=aT0 n es v):=by
 simp only[aAv.f,aT0]
 refine Ep.ite (fun h=>?_) (fun h=>?_)
 ·refine Ep.up ?_
  simp only[aAv.j0]
  refine Ep.pos trivial (Ep.now ?_)
  rw[if_neg (by omega)]
 ·refine Ep.up ?_
  simp only[aAv.j0]
  refine Ep.ite (fun h2=>Ep.now ?_) (fun h2=>?_)
  ·have:v≥n:=by simpa using h2
   rw[if_neg (by omega)]
  ·have:¬ v≥n:=by simpa using h2
   refine(aL9 v es hl es.length 0 0 (by omega) (by omega) (by omega)).mono ?_
   rintro _ rfl
   rw[if_pos (by omega),List.drop_zero]
   omega
end Go.Proofs.Ytnbljcgdgblgoaa.Cf
end
section
namespace Go.Proofs.Ytnbljcgdgblgoaa.Cf
def aDn (es:List E) (b:List Int) (v:Int):Int:=(b.map (mult es v)).sum
inductive aKe (n:Nat) (es:List E) (d:Int→Int) (q:Int):List Int→Prop
 | start:aKe n es d q [q]
 | step {b:List Int} {v:Int}:aKe n es d q b→0≤v→v<n→v∉b→d v<aDn es b v→aKe n es d q (b++[v])
theorem aKe.ok {n:Nat} {es:List E} {d:Int→Int} {q:Int} {b:List Int} (hq:0≤q∧q<n) (h:aKe n es d q b):b.Nodup∧(∀ v∈b,0≤v∧v<n)∧q∈b:=by
 induction h with
 | start=>exact⟨by simp,fun v hv=>by rw[List.mem_singleton.1 hv];exact hq,by simp⟩
 | @step b v _ h0 h1 hv _ ih =>
  refine⟨?_,fun x hx=>?_,List.mem_append_left _ ih.2.2⟩
  ·rw[List.nodup_append]
   exact⟨ih.1,by simp,fun a ha c hc=>by
    rw[List.mem_singleton.1 hc]
    rintro rfl
    exact hv ha⟩
  ·rcases List.mem_append.1 hx with hx|hx
   ·exact ih.2.1 x hx
   ·rw[List.mem_singleton.1 hx]
    exact⟨h0,h1⟩
theorem aKe.len {n:Nat} {es:List E} {d:Int→Int} {q:Int} {b:List Int} (hq:0≤q∧q<n) (h:aKe n es d q b):b.length≤n:=aEc n b (h.ok hq).1 (h.ok hq).2.1
theorem aM4 (x:Int):∀ (b:List Int),b.Nodup→(b.map (fun w=>if x=w then (1:Int) else 0)).sum=if x∈b then 1 else 0
 | [],_=>by simp
 | a::r,h=>by
  have ih:=aM4 x r (List.nodup_cons.1 h).2
  have hn:=(List.nodup_cons.1 h).1
  simp only[List.map_cons,List.sum_cons,ih,List.mem_cons]
  by_cases e:x=a
  ·subst e
   simp[hn]
  ·simp[e]
theorem aN8 (b:List Int):(b.map (fun _=>(0:Int))).sum=0:=by
 induction b with
 | nil=>rfl
 | cons a r ih=>simp only[List.map_cons,List.sum_cons,ih];rfl
theorem sum_add (b:List Int) (f g:Int→Int):(b.map (fun w=>f w+g w)).sum=(b.map f).sum+(b.map g).sum:=by
 induction b with
 | nil=>rfl
 | cons a r ih=>simp only[List.map_cons,List.sum_cons,ih];omega
theorem aGv {n:Int} {es:List E} (hes:∀ e∈es,EOk n e) {b:List Int} (hb:b.Nodup) {v:Int} (hv:v∉b):aDn es b v=lap es (ind (fun x=>decide (x∉b))) v:=by
 induction es with
 | nil =>
  unfold aDn
  rw[aQ6]
  exact aN8 b
 | cons e r ih =>
  have ih:=ih (fun x hx=>hes x (List.mem_cons_of_mem _ hx))
  have hk:=hes e List.mem_cons_self
  unfold EOk at hk
  have h1:aDn (e::r) b v=(b.map (fun w=>aGp v w e)).sum+aDn r b v:=by
   unfold aDn
   rw[← sum_add]
   congr 1
  rw[h1,ih,aK1]
  congr 1
  unfold aJc ind aGp
  by_cases a:e.f0=v
  ·have c:¬ e.f1=v:=by omega
   have key:(b.map (fun w=>if(e.f0=v∧e.f1=w)∨(e.f0=w∧e.f1=v) then (1:Int) else 0)).sum=if e.f1∈b then 1 else 0:=by
    rw[← aM4 e.f1 b hb]
    congr 1
    apply List.map_congr_left
    intro w _
    simp[a,c]
   rw[key,if_pos a,if_neg c,a]
   by_cases m:e.f1∈b<;>simp[m,hv]
  ·by_cases c:e.f1=v
   ·have key:(b.map (fun w=>if(e.f0=v∧e.f1=w)∨(e.f0=w∧e.f1=v) then (1:Int) else 0)).sum=if e.f0∈b then 1 else 0:=by
     rw[← aM4 e.f0 b hb]
     congr 1
     apply List.map_congr_left
     intro w _
     simp[a,c]
    rw[key,if_neg a,if_pos c,c]
    by_cases m:e.f0∈b<;>simp[m,hv]
   ·have key:(b.map (fun w=>if(e.f0=v∧e.f1=w)∨(e.f0=w∧e.f1=v) then (1:Int) else 0)).sum=0:=by
     exact(congrArg List.sum (List.map_congr_left (g:=fun _=>(0:Int)) (fun w _=>by simp[a,c]))).trans (aN8 b)
    rw[key,if_neg a,if_neg c]
    rfl
theorem aHq {es:List E} {S T:Int→Bool} {v:Int} (hv:S v=true) (hw:T v=true) (h:∀ x,S x=true→T x=true):lap es (ind T) v≤lap es (ind S) v:=by
 apply aJv
 intro e _
 have h0:=h e.f0
 have h1:=h e.f1
 unfold aJc ind
 by_cases a:e.f0=v
 ·by_cases b:e.f1=v
  ·simp[a,b]
  ·rw[if_pos a,if_pos a,if_neg b,if_neg b,a,hv,hw]
   cases hs:S e.f1<;>cases ht:T e.f1<;>simp_all
 ·by_cases b:e.f1=v
  ·rw[if_neg a,if_neg a,if_pos b,if_pos b,b,hv,hw]
   cases hs:S e.f0<;>cases ht:T e.f0<;>simp_all
  ·rw[if_neg a,if_neg a,if_neg b,if_neg b]
   exact Int.le_refl _
theorem aKe.meets {n:Nat} {es:List E} (hes:∀ e∈es,EOk n e) {d:Int→Int} {q:Int} (hq:0≤q∧q<n) {b:List Int} (h:aKe n es d q b) {S:Int→Bool} (hS:S q=false):(∀ v∈b,S v=false)∨∃ v:Int,0≤v∧v<n∧S v=true∧d v<lap es (ind S) v:=by
 induction h with
 | start=>exact .inl (fun v hv=>by rw[List.mem_singleton.1 hv];exact hS)
 | @step b v hb h0 h1 hv hlt ih =>
  rcases ih with ih|ih
  ·by_cases hx:S v=true
   ·right
    refine⟨v,h0,h1,hx,?_⟩
    rw[aGv hes (hb.ok hq).1 hv]at hlt
    have:=aHq (es:=es) (S:=S) (T:=fun x=>decide (x∉b)) hx (by simpa using hv) (fun x hx=>by
     simp only[decide_eq_true_eq]
     intro hm
     rw[ih x hm]at hx
     cases hx)
    omega
   ·left
    intro x hm
    rcases List.mem_append.1 hm with hm|hm
    ·exact ih x hm
    ·rw[List.mem_singleton.1 hm]
     simpa using hx
  ·exact .inr ih
theorem aKe.red {n:Nat} {es:List E} (hes:∀ e∈es,EOk n e) {d:Int→Int} {q:Int} (hq:0≤q∧q<n) {b:List Int} (h:aKe n es d q b) (hl:b.length=n) (hd:∀ v:Int,0≤v→v<n→v≠q→0≤d v):Red n es q d:=by
 refine⟨hd,fun S hS hx=>?_⟩
 rcases h.meets hes hq hS with hb|hb
 ·exfalso
  obtain⟨v,h0,h1,hv⟩:=hx
  have:v∈b:=by
   apply Classical.byContradiction
   intro hn
   have:=aEc n (v::b) (List.nodup_cons.2 ⟨hn,(h.ok hq).1⟩) (fun x hx=>by
    rcases List.mem_cons.1 hx with rfl|hx
    ·exact⟨h0,h1⟩
    ·exact(h.ok hq).2.1 x hx)
   simp at this
   omega
  rw[hb v this]at hv
  cases hv
 ·exact hb
theorem Red.burns {n:Nat} {es:List E} (hes:∀ e∈es,EOk n e) {d:Int→Int} {q:Int} (hq:0≤q∧q<n) {b:List Int} (h:aKe n es d q b) (hr:Red n es q d) (hl:b.length<n):∃ v:Int,0≤v∧v<n∧v∉b∧d v<aDn es b v:=by
 have hok:=h.ok hq
 have hex:∃ v:Int,0≤v∧v<n∧v∉b:=by
  apply Classical.byContradiction
  intro hc
  have:=aIh n b (fun i hi=>by
   apply Classical.byContradiction
   intro hm
   exact hc ⟨i,by omega,by omega,hm⟩)
  omega
 obtain⟨v,h0,h1,hv,hlt⟩:=hr.2 (fun x=>decide (x∉b)) (by simpa using hok.2.2) (by obtain⟨v,h0,h1,hv⟩:=hex;exact⟨v,h0,h1,by simpa using hv⟩)
 have hv':v∉b:=by simpa using hv
 exact⟨v,h0,h1,hv',by rw[aGv hes hok.1 hv'];exact hlt⟩
theorem aJu {n:Nat} {f:Nat→Int} {c:Int} (h:∀ i,i<n→f i≤c):aEp n f≤n*c:=by
 rw[← aO9]
 exact aPl h
theorem aM5 {n:Nat} {f:Nat→Int} (h:∀ i,i<n→0≤f i):0≤aEp n f:=by
 have:=aPl (n:=n) (f:=fun _=>0) (g:=f) h
 rw[aFa]at this
 exact this
theorem aU9 (v t:Int) (i:Nat):one v t (i:Int)=if(i:Int)=v then t else 0:=rfl
theorem aPk {n:Nat} {v:Int} (h0:0≤v) (h1:v<n) (t:Int):aEp n (fun i=>one v t (i:Int))=t:=by
 have:=aH0 (n:=n) v.toNat (by omega) t
 refine(aDg fun i _=>?_).trans this
 rw[aU9]
 have:((i:Int)=v)↔i=v.toNat:=by omega
 simp only[this]
def aZp (es:List E) (d:Int→Int) (v:Int):Int:=val es v-1-d v
structure aW7 (n:Nat) (es:List E) (q:Int) (d u:Int→Int):Prop where
 pos:∀ w,0≤u w
 at_q:u q=0
 keeps:∀ v:Int,0≤v→v<n→v≠q→0≤d v-lap es u v
theorem aW7.zero {n:Nat} {es:List E} {q:Int} {d:Int→Int} (h:∀ v:Int,0≤v→v<n→v≠q→0≤d v):aW7 n es q d (fun _=>0) where
 pos:=fun _=>Int.le_refl _
 at_q:=rfl
 keeps:=fun v h0 h1 h2=>by
  rw[aIi (c:=0) (fun _ _=>⟨rfl,rfl⟩)]
  have:=h v h0 h1 h2
  omega
def unb (b:List Int):Int→Int:=ind (fun x=>decide (x∉b))
theorem aM1 {b:List Int} {v:Int} (h:v∈b):unb b v=0:=by simp[unb,ind,h]
theorem aTo {b:List Int} {v:Int} (h:v∉b):unb b v=1:=by simp[unb,ind,h]
theorem aJ5 (b:List Int) (v:Int):0≤unb b v:=by
 by_cases h:v∈b
 ·rw[aM1 h];omega
 ·rw[aTo h];omega
theorem aW7.step {n:Nat} {es:List E} (hes:∀ e∈es,EOk n e) {q:Int} (hq:0≤q∧q<n) {d u x:Int→Int} (h:aW7 n es q d u) (hx:∀ v:Int,0≤v→v<n→x v=d v-lap es u v) {b:List Int} (hb:aKe n es x q b) (hc:∀ v:Int,0≤v→v<n→v∉b→aDn es b v≤x v) :
  aW7 n es q d (fun w=>u w+unb b w) where
 pos:=fun w=>by have:=h.pos w;have:=aJ5 b w;show 0≤u w+unb b w;omega
 at_q:=by show u q+unb b q=0;rw[h.at_q,aM1 (hb.ok hq).2.2];rfl
 keeps:=fun v h0 h1 h2=>by
  rw[aK2]
  have:=h.keeps v h0 h1 h2
  have e:=hx v h0 h1
  by_cases hm:v∈b
  ·have:=aMd (es:=es) (r:=unb b) (v:=v) (aJ5 b) (aM1 hm)
   omega
  ·have h3:=hc v h0 h1 hm
   rw[aGv hes (hb.ok hq).1 hm]at h3
   have:lap es (unb b) v=lap es (ind (fun x=>decide (x∉b))) v:=rfl
   omega
def aFd (es:List E) (d:Int→Int) (b:List Int):Nat→Nat→Int
 | 0,_=>-1
 | k+1,i=>if(i:Int)∉b∧d i<aDn es b i then i else aFd es d b k (i+1)
theorem aI1 (es:List E) (d:Int→Int) (b:List Int):∀ (k i:Nat),(aFd es d b k i=-1∧∀ j:Nat,i≤j→j<i+k→(j:Int)∉b→aDn es b j≤d j)∨((i:Int)≤aFd es d b k i∧aFd es d b k i<i+k∧aFd es d b k i∉b∧d (aFd es d b k i)<aDn es b (aFd es d b k i))
 | 0,i=>.inl ⟨rfl,fun j h0 h1=>by omega⟩
 | k+1,i=>by
  unfold aFd
  by_cases h:(i:Int)∉b∧d i<aDn es b i
  ·rw[if_pos h]
   exact .inr ⟨by omega,by omega,h.1,h.2⟩
  ·rw[if_neg h]
   rcases aI1 es d b k (i+1) with ⟨h1,h2⟩|⟨h1,h2,h3⟩
   ·refine .inl ⟨h1,fun j h3 h4 h5=>?_⟩
    by_cases e:j=i
    ·subst e
     apply Classical.byContradiction
     intro hc
     exact h ⟨h5,by omega⟩
    ·exact h2 j (by omega) (by omega) h5
   ·exact .inr ⟨by omega,by omega,h3⟩
def aLh (n:Nat) (es:List E) (d:Int→Int):Nat→List Int→List Int
 | 0,b=>b
 | k+1,b=>if aFd es d b n 0<0 then b else aLh n es d k (b++[aFd es d b n 0])
def aHw (n:Nat) (es:List E) (d:Int→Int) (q:Int):List Int:=aLh n es d n [q]
def aMv (n:Nat) (es:List E) (d:Int→Int) (b:List Int):Prop:=∀ v:Int,0≤v→v<n→v∉b→aDn es b v≤d v
theorem aL0 {n:Nat} {es:List E} {d:Int→Int} {b:List Int} (h:aFd es d b n 0<0):aMv n es d b:=by
 rcases aI1 es d b n 0 with ⟨_,h2⟩|⟨h1,_⟩
 ·intro v h0 h1 hm
  have e:((v.toNat:Nat):Int)=v:=by omega
  have:=h2 v.toNat (by omega) (by omega) (by rw[e];exact hm)
  rw[e]at this
  exact this
 ·omega
theorem aO0 {n:Nat} {es:List E} {d:Int→Int} {q:Int} (hq:0≤q∧q<n):∀ (k:Nat) (b:List Int),n+1≤b.length+k→aKe n es d q b→aKe n es d q (aLh n es d k b)∧aMv n es d (aLh n es d k b)
 | 0,b,hl,h=>by have:=h.len hq;omega
 | k+1,b,hl,h=>by
  unfold aLh
  by_cases hc:aFd es d b n 0<0
  ·rw[if_pos hc]
   exact⟨h,aL0 hc⟩
  ·rw[if_neg hc]
   rcases aI1 es d b n 0 with ⟨h1,_⟩|⟨h1,h2,h3,h4⟩
   ·omega
   ·exact aO0 hq k _ (by simp;omega) (h.step (by omega) (by omega) h3 h4)
theorem aKa {n:Nat} {es:List E} {d:Int→Int} {q:Int} (hq:0≤q∧q<n):aKe n es d q (aHw n es d q)∧aMv n es d (aHw n es d q):=aO0 hq n [q] (by simp;omega) .start
def aZ8 (n:Nat) (es:List E) (q:Int) (d x s:Int→Int):Prop:=Red n es q x∧s q=0∧∀ v:Int,0≤v→v<n→x v=d v-lap es s v
theorem Red.lt {n:Nat} {es:List E} (hes:∀ e∈es,EOk n e) {q:Int} {d:Int→Int} (h:Red n es q d) {v:Int} (h0:0≤v) (h1:v<n) (hv:v≠q):0≤d v∧d v<val es v:=by
 refine⟨h.1 v h0 h1 hv,?_⟩
 obtain⟨w,_,_,hw,hlt⟩:=h.2 (fun x=>decide (x=v)) (by simpa using fun e=>hv e.symm) ⟨v,h0,h1,by simp⟩
 obtain rfl:w=v:=by simpa using hw
 have e:ind (fun x=>decide (x=w))=one w 1:=by
  funext x
  unfold ind one
  by_cases c:x=w<;>simp[c]
 rw[e,aL6 hes]at hlt
 omega
theorem Red.at_q {n:Nat} (hn:n≤6) {es:List E} (hes:∀ e∈es,EOk n e) (hel:es.length≤12) {q:Int} (hq:0≤q∧q<n) {d:Int→Int} (h:Red n es q d):aEp n (fun i=>d (i:Int))-72≤d q∧d q≤aEp n (fun i=>d (i:Int)):=by
 have hf:∀ i:Nat,i<n→0≤d i-one q (d q) i∧d i-one q (d q) i≤12:=by
  intro i hi
  unfold one
  by_cases e:(i:Int)=q
  ·rw[if_pos e,e];omega
  ·rw[if_neg e]
   have:=h.lt hes (v:=i) (by omega) (by omega) e
   have:=aN1 es i
   omega
 have h1:aEp n (fun i=>d (i:Int))=aEp n (fun i=>d i-one q (d q) i)+d q:=by
  have:=aG7 n (fun i=>d i-one q (d q) i) (fun i=>one q (d q) i)
  rw[aPk hq.1 hq.2]at this
  rw[← this]
  apply aDg
  intro i _
  omega
 have h2:=aM5 (n:=n) (fun i hi=>(hf i hi).1)
 have h3:=aJu (n:=n) (fun i hi=>(hf i hi).2)
 omega
end Go.Proofs.Ytnbljcgdgblgoaa.Cf
end
section
namespace Go.Proofs.Ytnbljcgdgblgoaa.Cf
open Go.Proofs.YtnbljcgdgblgoaaW.PrintWords
theorem aX1 {x:List Int} {i:Int} (h0:0≤i) (h1:i<x.length) (y:Int) {w:Int} (hw:0≤w):rd (x.set i.toNat y) w=if w=i then y else rd x w:=by
 obtain⟨a,rfl⟩:=Int.eq_ofNat_of_zero_le h0
 obtain⟨b,rfl⟩:=Int.eq_ofNat_of_zero_le hw
 simp only[Int.ofNat_eq_natCast,Int.toNat_natCast,aEh,List.getD_eq_getElem?_getD]at *
 by_cases c:b=a
 ·subst c
  rw[List.getElem?_set_self (by omega),if_pos rfl]
  rfl
 ·rw[List.getElem?_set_ne (fun y=>c y.symm),if_neg (by omega)]
def Bd (x:List Int) (B:Int):Prop:=∀ w:Int,0≤w→w<x.length→-B≤rd x w∧rd x w≤B
theorem Bd.mono {x:List Int} {B B':Int} (h:Bd x B) (hB:B≤B'):Bd x B':=fun w h0 h1=>by have:=h w h0 h1;omega
theorem Bd.of60 {p:List Int} (h:∀ x∈p,-60≤x∧x≤60):Bd p 60:=fun w h0 h1=>by
 obtain⟨i,rfl⟩:=Int.eq_ofNat_of_zero_le h0
 have hi:i<p.length:=by omega
 rw[aEk hi]
 exact h _ (List.getElem_mem hi)
def Rep (n:Nat) (c:List Int) (s:Int→Int):Prop:=c.length=n∧∀ w:Int,0≤w→w<n→rd c w=s w
theorem Rep.ext {n:Nat} {c c':List Int} {s:Int→Int} (h:Rep n c s) (h':Rep n c' s):c=c':=by
 apply List.ext_getElem (by rw[h.1,h'.1])
 intro i h1 h2
 have e:=h.2 i (by omega) (by have:=h.1;omega)
 have e':=h'.2 i (by omega) (by have:=h.1;omega)
 rw[aEk h1]at e
 rw[aEk h2]at e'
 rw[e,e']
theorem Rep.congr {n:Nat} {c:List Int} {s t:Int→Int} (h:Rep n c s) (he:∀ w:Int,0≤w→w<n→s w=t w):Rep n c t:=⟨h.1,fun w h0 h1=>(h.2 w h0 h1).trans (he w h0 h1)⟩
theorem Rep.self {n:Nat} {c:List Int} (h:c.length=n):Rep n c (rd c):=⟨h,fun _ _ _=>rfl⟩
theorem Rep.set {n:Nat} {c:List Int} {s:Int→Int} (h:Rep n c s) {v:Int} (h0:0≤v) (h1:v<n) (y:Int):Rep n (c.set v.toNat y) (fun w=>if w=v then y else s w):=by
 refine⟨by rw[List.length_set];exact h.1,fun w w0 w1=>?_⟩
 rw[aX1 h0 (by rw[h.1];exact h1) y w0,h.2 w w0 w1]
theorem aFx (n:Nat) (v:Int):rd (List.replicate n (0:Int)) v=0:=by
 unfold rd
 rw[List.getD_eq_getElem?_getD]
 by_cases h:v.toNat<n
 ·rw[List.getElem?_replicate_of_lt h];rfl
 ·rw[List.getElem?_eq_none (by simp;omega)];rfl
theorem Rep.zero (n:Nat):Rep n (List.replicate n (0:Int)) (fun _=>0):=⟨by simp,fun w _ _=>aFx n w⟩
def aRi (n:Nat) (f:Int→Int):List Int:=(List.range n).map fun i:Nat=>f (i:Int)
theorem aJx (n:Nat) (f:Int→Int):(aRi n f).length=n:=by simp[aRi]
theorem aRz (n:Nat) (f:Int→Int):Rep n (aRi n f) f:=by
 refine⟨by simp[aRi],fun w h0 h1=>?_⟩
 obtain⟨a,rfl⟩:=Int.eq_ofNat_of_zero_le h0
 rw[aEk (by simp[aRi];omega)]
 simp[aRi]
theorem Rep.eq {n:Nat} {c:List Int} {s:Int→Int} (h:Rep n c s):c=aRi n s:=h.ext (aRz n s)
def aR3 (n:Nat) (es:List E) (q:Int) (d:List Int) (r:List Int×List Int):Prop:=r.1.length=n∧r.2.length=n∧aZ8 n es q (rd d) (rd r.1) (rd r.2)
theorem aN9:∀ (n:Nat) (c:List Int),c.length=n→c.sum=aEp n (fun i=>rd c (i:Int))
 | 0,c,h=>by
  obtain rfl:=List.length_eq_zero_iff.1 h
  rfl
 | n+1,c,h=>by
  obtain⟨a,x,rfl⟩:∃ a x,c=a++[x]:=⟨c.dropLast,c.getLast (by rintro rfl;simp at h),(List.dropLast_concat_getLast _).symm⟩
  simp only[List.length_append,List.length_cons,List.length_nil,Nat.zero_add,Nat.add_right_cancel_iff]at h
  simp only[aEp,List.sum_append,List.sum_cons,List.sum_nil]
  rw[aN9 n a h]
  congr 1
  ·apply aDg
   intro i hi
   rw[aEk (show i<a.length by omega),aEk (show i<(a++[x]).length by simp;omega),List.getElem_append_left (by omega)]
  ·subst h
   rw[aEk (show a.length<(a++[x]).length by simp)]
   simp
theorem aLz {n:Int} {es:List E} {v:Int} (h:0≤v∧v<n):aT0 n es v=val es v:=by
 unfold aT0
 rw[if_pos h]
def aFn (q:Int) (p:List Int):Nat→Nat→Int
 | 0,_=>-1
 | d+1,i=>if(i:Int)=q then aFn q p d (i+1) else if rd p i<0 then i else aFn q p d (i+1)
theorem aNw (q:Int) (p:List Int):∀ (d i:Nat),(aFn q p d i=-1∧∀ j:Nat,i≤j→j<i+d→(j:Int)≠q→0≤rd p (j:Int))∨((i:Int)≤aFn q p d i∧aFn q p d i<i+d∧aFn q p d i≠q∧rd p (aFn q p d i)<0)
 | 0,i=>.inl ⟨rfl,fun j h0 h1=>by omega⟩
 | d+1,i=>by
  unfold aFn
  have ih:=aNw q p d (i+1)
  by_cases h:(i:Int)=q
  ·rw[if_pos h]
   rcases ih with ⟨h1,h2⟩|⟨h1,h2,h3⟩
   ·refine .inl ⟨h1,fun j h3 h4 h5=>?_⟩
    by_cases e:j=i
    ·subst e;exact absurd h h5
    ·exact h2 j (by omega) (by omega) h5
   ·exact .inr ⟨by omega,by omega,h3⟩
  ·rw[if_neg h]
   by_cases h2:rd p i<0
   ·rw[if_pos h2]
    exact .inr ⟨by omega,by omega,h,h2⟩
   ·rw[if_neg h2]
    rcases ih with ⟨h1,h3⟩|⟨h1,h3,h4⟩
    ·refine .inl ⟨h1,fun j k1 k2 k3=>?_⟩
     by_cases e:j=i
     ·subst e;omega
     ·exact h3 j (by omega) (by omega) k3
    ·exact .inr ⟨by omega,by omega,h4⟩
theorem aSl {n:Nat} {q:Int} {p:List Int} (hp:p.length=n) (h:¬ aFn q p p.length 0<0):0≤aFn q p p.length 0∧aFn q p p.length 0<n∧aFn q p p.length 0≠q∧rd p (aFn q p p.length 0)<0:=by
 rcases aNw q p p.length 0 with ⟨h1,_⟩|⟨h1,h2,h3⟩
 ·omega
 ·exact⟨by omega,by omega,h3⟩
end Go.Proofs.Ytnbljcgdgblgoaa.Cf
end
section
namespace Go.Proofs.Ytnbljcgdgblgoaa.Cf
open Go.RowKit Go.Proofs.YtnbljcgdgblgoaaW.PrintWords Go.Proofs.Ytnbljcgdgblgoaa.P
noncomputable def aS7 (es:List E) (v:Int) (idx:Nat):Nat→Nat→Nat
 | 0,_=>idx
 | d+1,j=>if atB es ((idx+j)%es.length:Nat) v then(idx+j)%es.length else aS7 es v idx d (j+1)
theorem aNn {es:List E} {v:Int} {idx:Nat} (ha:At es (idx:Int) v):∀ (d j:Nat),At es (aS7 es v idx d j:Nat) v
 | 0,_=>ha
 | d+1,j=>by
  unfold aS7
  split
  ·rename_i h
   exact aV5.1 h
  ·exact aNn ha d (j+1)
def aVb (n:Nat) (es:List E) (q:Int) (r:List Int):Prop:=r.length=n∧∀ v:Nat,(h:v<r.length)→(v:Int)≠q→At es r[v] v
def aW2 (r:List Int) (u:Nat):Nat:=(rd r (u:Int)).toNat
noncomputable def aQ2 (es:List E) (r:List Int) (u:Nat):Nat:=aS7 es (u:Int) (aW2 r u) (es.length-1) 1
noncomputable def aTw (es:List E) (r:List Int) (u:Nat):List Int:=r.set u (aQ2 es r u:Nat)
theorem aVb.rot {n:Nat} {es:List E} {r:List Int} {q:Int} (h:aVb n es q r) {u:Nat} (hu:u<n) (hq:(u:Int)≠q):rd r (u:Int)=(aW2 r u:Nat)∧aW2 r u<es.length∧At es (aW2 r u:Nat) u:=by
 have hl:u<r.length:=by rw[h.1];exact hu
 have ha:=h.2 u hl hq
 have hr:=ha.range
 have e:rd r (u:Int)=r[u]:=aEk hl
 have e2:((aW2 r u:Nat):Int)=r[u]:=by unfold aW2;rw[e];omega
 exact⟨by rw[e,e2],by omega,by rw[e2];exact ha⟩
theorem aVb.next {n:Nat} {es:List E} {r:List Int} {q:Int} (h:aVb n es q r) {u:Nat} (hu:u<n) (hq:(u:Int)≠q):aQ2 es r u<es.length∧At es (aQ2 es r u:Nat) u:=by
 have ha:=aNn (h.rot hu hq).2.2 (es.length-1) 1
 have:=ha.range
 exact⟨by unfold aQ2;omega,ha⟩
theorem aVb.step {n:Nat} {es:List E} {r:List Int} {q:Int} (h:aVb n es q r) {u:Nat} (hu:u<n) (hq:(u:Int)≠q):aVb n es q (aTw es r u):=by
 refine⟨by simp[aTw,h.1],?_⟩
 intro v hv hvq
 have hv':v<r.length:=by simpa[aTw]using hv
 change At es ((r.set u ((aQ2 es r u:Nat):Int))[v]'(by simpa using hv')) v
 rw[List.getElem_set]
 split
 ·rename_i e
  subst e
  exact(h.next hu hq).2
 ·exact h.2 v hv' hvq
structure Gr (n:Nat) (es:List E) (q:Int):Prop where
 n1:1≤n
 n6:n≤6
 hes:∀ e∈es,EOk n e
 hel:es.length≤12
 hj:aEo n es
 hq:0≤q∧q<n
theorem Gr.of {n:Nat} {es:List E} {q:Int} (h:GOk (n:Int) es) (hq:0≤q∧q<n):Gr n es q:=by
 obtain⟨h1,_,h3⟩:=h
 unfold EsOk at h1
 exact⟨by omega,by omega,h1.2.2.2,h1.2.2.1,h3,hq⟩
end Go.Proofs.Ytnbljcgdgblgoaa.Cf
end
section
namespace Go.Proofs.Ytnbljcgdgblgoaa.P
open Go.RowKit Go.Proofs.YtnbljcgdgblgoaaW.PrintWords Go.Proofs.YtnbljcgdgblgoaaW.PrintLast Go.Proofs.YtnbljcgdgblgoaaW.PrintMore
attribute [local go_sem] aCt aCr aDb aDa aCa aC9 aCs aCq
mutual
def aBf.l0:Nat→List Int→List Int→List Bool→Int→List (S57)→Option (List Int)
 | 0,_,_,_,_,_=>none
 | k+1,x1,x7,x8,aT,aM=>aBf.l1 k x1 x7 x8 (-1) (wrap64 (aT-1)) aT aM
def aBf.l1:Nat→List Int→List Int→List Bool→Int→Int→Int→List (S57)→Option (List Int)
 | 0,_,_,_,_,_,_,_=>none
 | k+1,x1,x7,x8,x9,fH,aT,aM=>if fH≥0 then(aBf.l2 k x1 x7 x8 x9 fH 0 0 aT aM) else(if x9<0 then(some x7) else(if 0≤x9 then(if x9<(x8.length:Int) then(if x7.length<17592186044416 then(aBf.l0 k x1 (x7++[x9]) (x8.set (x9:Int).toNat true) aT aM) else(none)) else(none)) else(none)))
def aBf.l2:Nat→List Int→List Int→List Bool→Int→Int→Int→Int→Int→List (S57)→Option (List Int)
 | 0,_,_,_,_,_,_,_,_,_=>none
 | k+1,x1,x7,x8,x9,fH,f4,mP,aT,aM=>if mP<aT then(if 0≤mP then(if mP<(x8.length:Int) then(if aGg false x8 mP=true then((aAg.f k aT aM fH mP).bind fun mX=>(aBf.l2 k x1 x7 x8 x9 fH (wrap64 (f4+mX)) (wrap64 (mP+1)) aT aM)) else(aBf.l2 k x1 x7 x8 x9 fH f4 (wrap64 (mP+1)) aT aM)) else(none)) else(none)) else(if 0≤fH then(if fH<(x8.length:Int) then(if aGg false x8 fH=true then(aBf.l1 k x1 x7 x8 x9 (wrap64 (fH-1)) aT aM) else(if fH<(x1.length:Int) then(if(rd x1 fH)<f4 then(aBf.l1 k x1 x7 x8 fH (wrap64 (fH-1)) aT aM) else(aBf.l1 k x1 x7 x8 x9 (wrap64 (fH-1)) aT aM)) else(none))) else(none)) else(none))
end
def aBf.f (k:Nat) (aD:Int) (aC:List (S57)) (l1:List Int) (a2:Int):Option (List Int):=if 0≤aD then(if(aD:Int).toNat≤281474976710656 then((some (List.replicate (aD:Int).toNat false:List Bool)).bind fun jV=>(if 0≤a2 then(if a2<(jV.length:Int) then(aBf.l0 k l1 (([a2]:List Int)) (jV.set (a2:Int).toNat true) aD aC) else(none)) else(none))) else(none)) else(none)
theorem aBf.mono_l:∀ k,(∀ y0 y1 y2 y3 y4,LeO (aBf.l0 k y0 y1 y2 y3 y4) (aBf.l0 (k+1) y0 y1 y2 y3 y4))∧(∀ y0 y1 y2 y3 y4 y5 y6,LeO (aBf.l1 k y0 y1 y2 y3 y4 y5 y6) (aBf.l1 (k+1) y0 y1 y2 y3 y4 y5 y6))∧(∀ y0 y1 y2 y3 y4 y5 y6 y7 y8,LeO (aBf.l2 k y0 y1 y2 y3 y4 y5 y6 y7 y8) (aBf.l2 (k+1) y0 y1 y2 y3 y4 y5 y6 y7 y8))
 | 0=>⟨fun _ _ _ _ _ r h=>by simp[aBf.l0]at h,fun _ _ _ _ _ _ _ r h=>by simp[aBf.l1]at h,fun _ _ _ _ _ _ _ _ _ r h=>by simp[aBf.l2]at h⟩
 | k+1=>by
  obtain⟨ih0,ih1,ih2⟩:=aBf.mono_l k
  refine⟨?_,?_,?_⟩
  ·intro y0 y1 y2 y3 y4
   unfold aBf.l0
   exact zm5
  ·intro y0 y1 y2 y3 y4 y5 y6
   unfold aBf.l1
   exact zm5
  ·intro y0 y1 y2 y3 y4 y5 y6 y7 y8
   unfold aBf.l2
   exact zm5
theorem aBf.mono:∀ a0 a1 a2 a3 k,LeO (aBf.f k a0 a1 a2 a3) (aBf.f (k+1) a0 a1 a2 a3):=by
 intro a0 a1 a2 a3 k;obtain⟨ih0,ih1,ih2⟩:=aBf.mono_l k;unfold aBf.f;exact zm5
end Go.Proofs.Ytnbljcgdgblgoaa.P
end
section
namespace Go.Proofs.Ytnbljcgdgblgoaa.Cf
open Go.RowKit Go.Proofs.YtnbljcgdgblgoaaW.PrintWords Go.Proofs.YtnbljcgdgblgoaaW.PrintMore Go.Proofs.Ytnbljcgdgblgoaa.P
theorem aL4 {n:Int} {e:E} (h:EOk n e) {a b:Int} (hab:a≠b):aGp a b e=if e.f0=mn a b∧e.f1=mx a b then 1 else 0:=by
 unfold EOk at h
 unfold aGp mn mx
 by_cases c:b<a
 ·rw[if_pos c,if_neg (show ¬ a<b by omega)]
  by_cases x:e.f0=b∧e.f1=a
  ·rw[if_pos (.inr x),if_pos x]
  ·rw[if_neg (by omega),if_neg x]
 ·rw[if_neg c,if_pos (show a<b by omega)]
  by_cases x:e.f0=a∧e.f1=b
  ·rw[if_pos (.inl x),if_pos x]
  ·rw[if_neg (by omega),if_neg x]
theorem aL2 {n:Int} {es:List E} (hes:∀ e∈es,EOk n e) (a:Int):mult es a a=0:=by
 apply aFu
 intro e he
 have h:=hes e he
 unfold EOk at h
 unfold aGp
 rw[if_neg (by omega)]
theorem aL3 {es:List E} {i:Nat} (h:i<es.length) (a b:Int):mult (es.drop i) a b=aGp a b es[i]+mult (es.drop (i+1)) a b:=by
 rw[List.drop_eq_getElem_cons h]
 exact aDl _ _ _
theorem aM7 (n:Int) (es:List E) (hes:∀ e∈es,EOk n e) (hel:es.length≤12) (a b:Int) (hab:a≠b):∀ (d i:Nat) (c:Int),i+d=es.length→0≤c→c≤i→Ep (fun k=>aAg.l0 k a b c es (es.length:Int) (i:Int)) (·=c+mult (es.drop i) a b):=by
 intro d
 induction d with
 | zero =>
  intro i c hi h0 h1
  refine Ep.up ?_
  simp only[aAg.l0]
  refine Ep.neg (by omega) (Ep.now ?_)
  rw[List.drop_of_length_le (by omega)]
  simp[mult,aH1]
 | succ d ih =>
  intro i c hi h0 h1
  have hlt:i<es.length:=by omega
  have hk:=hes _ (List.getElem_mem hlt)
  refine Ep.up ?_
  simp only[aAg.l0]
  refine Ep.pos (by omega) (Ep.pos (by omega) (Ep.pos (by omega) ?_))
  rw[aEb hlt,aBw (by omega),aC5 (x:=c+1) (by omega) (by omega),aL3 hlt,aL4 hk hab]
  refine Ep.ite (fun h=>Ep.ite (fun h2=>?_) (fun h2=>?_)) (fun h=>?_)
  ·rw[if_pos ⟨h,h2⟩]
   refine(ih (i+1) (c+1) (by omega) (by omega) (by omega)).mono ?_
   rintro _ rfl
   omega
  ·rw[if_neg (fun x=>h2 x.2)]
   refine(ih (i+1) c (by omega) (by omega) (by omega)).mono ?_
   rintro _ rfl
   omega
  ·rw[if_neg (fun x=>h x.1)]
   refine(ih (i+1) c (by omega) (by omega) (by omega)).mono ?_
   rintro _ rfl
   omega
theorem aJd (n:Int) (es:List E) (v:Int):aCj.f n es v=some (decide (0≤v∧v<n)):=by
 unfold aCj.f
 by_cases h:v≥0
 ·rw[if_pos h]
  have:(0≤v∧v<n)↔v<n:=⟨fun x=>x.2,fun x=>⟨h,x⟩⟩
  simp only[this]
 ·rw[if_neg h]
  have:¬ (0≤v∧v<n):=fun x=>h x.1
  simp only[this,decide_false]
theorem aNb (n:Int) (es:List E) (hes:∀ e∈es,EOk n e) (hel:es.length≤12) (a b:Int) (ha:0≤a∧a<n) (hb:0≤b∧b<n):Ep (fun k=>aAg.f k n es a b) (·=mult es a b):=by
 simp only[aAg.f]
 refine Ep.bind0 (aJd _ _ _) (Ep.pos (by simpa using ha) (Ep.bind0 (aJd _ _ _) (Ep.pos (by simpa using hb) ?_)))
 refine Ep.up ?_
 simp only[aAg.j0]
 refine Ep.ite (fun h=>Ep.now ?_) (fun h=>?_)
 ·have:a=b:=by simpa using h
  rw[this,aL2 hes]
 ·have hab:a≠b:=by simpa using h
  refine(aM7 n es hes hel a b hab es.length 0 0 (by omega) (by omega) (by omega)).mono ?_
  rintro _ rfl
  simp
theorem aMi (n:Int) (es:List E) (hes:∀ e∈es,EOk n e) (hel:es.length≤12) (a b:Int) (hab:a≠b):∀ (d i:Nat) (c:Int),i+d=es.length→0≤c→c≤i→Ep (fun k=>aAf.l0 k a b c es (es.length:Int) (i:Int)) (·=c+mult (es.drop i) a b):=by
 intro d
 induction d with
 | zero =>
  intro i c hi h0 h1
  refine Ep.up ?_
  simp only[aAf.l0]
  refine Ep.neg (by omega) (Ep.now ?_)
  rw[List.drop_of_length_le (by omega)]
  simp[mult,aH1]
 | succ d ih =>
  intro i c hi h0 h1
  have hlt:i<es.length:=by omega
  have hk:=hes _ (List.getElem_mem hlt)
  refine Ep.up ?_
  simp only[aAf.l0]
  refine Ep.pos (by omega) (Ep.pos (by omega) (Ep.pos (by omega) ?_))
  rw[aEb hlt,aBw (by omega),aC5 (x:=c+1) (by omega) (by omega),aL3 hlt,aL4 hk hab]
  refine Ep.ite (fun h=>Ep.ite (fun h2=>?_) (fun h2=>?_)) (fun h=>?_)
  ·rw[if_pos ⟨h,h2⟩]
   refine(ih (i+1) (c+1) (by omega) (by omega) (by omega)).mono ?_
   rintro _ rfl
   omega
  ·rw[if_neg (fun x=>h2 x.2)]
   refine(ih (i+1) c (by omega) (by omega) (by omega)).mono ?_
   rintro _ rfl
   omega
  ·rw[if_neg (fun x=>h x.1)]
   refine(ih (i+1) c (by omega) (by omega) (by omega)).mono ?_
   rintro _ rfl
   omega
theorem aNs (n:Int) (es:List E) (hes:∀ e∈es,EOk n e) (hel:es.length≤12) (a b:Int) (ha:0≤a∧a<n) (hb:0≤b∧b<n):Ep (fun k=>aAf.f k n es a b) (·=mult es a b):=by
 simp only[aAf.f]
 refine Ep.neg (by unfold mn;split<;>omega) (Ep.neg (by unfold mx;split<;>omega) ?_)
 refine Ep.up ?_
 simp only[aAf.j0]
 refine Ep.ite (fun h=>Ep.now ?_) (fun h=>?_)
 ·have:a=b:=by simpa using h
  rw[this,aL2 hes]
 ·have hab:a≠b:=by simpa using h
  refine(aMi n es hes hel a b hab es.length 0 0 (by omega) (by omega) (by omega)).mono ?_
  rintro _ rfl
  simp
def aT6 (x:Int):List Int→Nat→Int
 | [],_=>-1
 | a::r,i=>if x=a then i else aT6 x r (i+1)
theorem aQf {l:List Int} {i:Nat} (h:i<l.length) (x:Int) (j:Nat):aT6 x (l.drop i) j=if x=l[i] then(j:Int) else aT6 x (l.drop (i+1)) (j+1):=by
 rw[List.drop_eq_getElem_cons h]
 rfl
theorem aNu (x:Int):∀ (l:List Int) (i:Nat),0≤aT6 x l i↔x∈l
 | [],i=>by simp[aT6]
 | a::r,i=>by
  unfold aT6
  by_cases h:x=a
  ·rw[if_pos h,h];simp
  ·rw[if_neg h,aNu x r (i+1)];simp[h]
theorem aSc (l:List Int) (x:Int) (hl:l.length≤1048576):∀ (d i:Nat),i+d=l.length→Ep (fun k=>aAx.l0 k l x (l.length:Int) (i:Int)) (·=aT6 x (l.drop i) i):=by
 intro d
 induction d with
 | zero =>
  intro i hi
  refine Ep.up ?_
  simp only[aAx.l0]
  refine Ep.neg (by omega) (Ep.now ?_)
  rw[List.drop_of_length_le (by omega)]
  rfl
 | succ d ih =>
  intro i hi
  have hlt:i<l.length:=by omega
  refine Ep.up ?_
  simp only[aAx.l0]
  refine Ep.pos (by omega) (Ep.pos (by omega) (Ep.pos (by omega) ?_))
  rw[aEk hlt,aBw (by omega),aQf hlt]
  refine Ep.ite (fun h=>Ep.now ?_) (fun h=>?_)
  ·rw[if_pos h]
  ·rw[if_neg h]
   exact ih (i+1) (by omega)
theorem aSb (l:List Int) (x:Int) (hl:l.length≤1048576):Ep (fun k=>aAx.f k l x) (·=aT6 x l 0):=by
 have:=aSc l x hl l.length 0 (by omega)
 simp only[aAx.f]
 exact this
theorem aGu (l:List Int) (x:Int) (hl:l.length≤1048576):Ep (fun k=>aB9.f k l x) (·=decide (x∈l)):=by
 simp only[aB9.f]
 refine Ep.bind (aSb l x hl) ?_
 rintro _ rfl
 refine Ep.now ?_
 have:=aNu x l 0
 simp only[ge_iff_le,this]
theorem aJk {es:List E} (hel:es.length≤12) (v:Int):∀ (b:List Int),0≤aDn es b v∧aDn es b v≤12*b.length
 | []=>by simp[aDn]
 | a::r=>by
  have ih:=aJk hel v r
  have h0:=aEe es v a
  have h1:=aGo es v a
  unfold aDn at ih ⊢
  rw[List.map_cons,List.sum_cons,List.length_cons]
  omega
theorem aMm {n:Nat} {es:List E} {q:Int} (g:Gr n es q) (d:List Int) (hd:d.length=n) (b:List Int) (hok:b.Nodup∧∀ v∈b,0≤v∧v<n) (hbl:b.length≤n) (v:Nat) (hv:v<n) {Q:List Int→Prop}
  (hk:Ep (fun k=>aAw.l1 k d b (if(v:Int)∉b∧rd d v<aDn es b v then(v:Int) else -1) ((v+1:Nat):Int) (n:Int) es) Q) :
  ∀ (dd i:Nat),i+dd=b.length→Ep (fun k=>aAw.l2 k d b (-1) (v:Int) (aDn es (b.take i) v) b (b.length:Int) (i:Int) (n:Int) es) Q:=by
 have hn:=g.n6
 have hel:=g.hel
 intro dd
 induction dd with
 | zero =>
  intro i hi
  rw[List.take_of_length_le (by omega)]
  refine Ep.up ?_
  simp only[aAw.l2]
  have hw:=aBw (i:=v) (by omega)
  rw[hw]
  refine Ep.neg (by omega) ?_
  refine Ep.bind (aGu b v (by omega)) ?_
  rintro _ rfl
  refine Ep.ite (fun h=>?_) (fun h=>?_)
  ·have h':(v:Int)∈b:=by simpa using h
   rw[if_neg (fun y=>y.1 h')]at hk
   exact hk
  ·have h':(v:Int)∉b:=by simpa using h
   refine Ep.pos (by omega) (Ep.pos (by omega) (Ep.ite (fun h2=>?_) (fun h2=>?_)))
   ·rw[if_pos ⟨h',h2⟩]at hk
    exact hk
   ·rw[if_neg (fun y=>h2 y.2)]at hk
    exact hk
 | succ dd ih =>
  intro i hi
  have hlt:i<b.length:=by omega
  have hbi:=hok.2 _ (List.getElem_mem hlt)
  have hb:=aJk hel v (b.take i)
  have hml:=aGo es v b[i]
  have hm0:=aEe es v b[i]
  rw[List.length_take]at hb
  have e:aDn es (b.take (i+1)) v=aDn es (b.take i) v+mult es v b[i]:=by
   unfold aDn
   rw[List.take_succ_eq_append_getElem hlt,List.map_append,List.sum_append]
   simp
  have ih':=ih (i+1) (by omega)
  rw[e]at ih'
  refine Ep.up ?_
  simp only[aAw.l2]
  refine Ep.pos (by omega) (Ep.pos (by omega) (Ep.pos (by omega) ?_))
  rw[aEk hlt,aBw (by omega)]
  refine Ep.bind (aNs n es g.hes hel v b[i] (by omega) hbi) ?_
  rintro _ rfl
  rw[aC5 (by omega) (by omega)]
  exact ih'
theorem aMn {n:Nat} {es:List E} {q:Int} (g:Gr n es q) (d:List Int) (hd:d.length=n) (b:List Int) (hok:b.Nodup∧∀ v∈b,0≤v∧v<n) (hbl:b.length≤n) {Q:List Int→Prop}
  (hk:Ep (fun k=>if aFd es (rd d) b n 0<0 then some b else(if b.length<17592186044416 then aAw.l0 k d (b++[aFd es (rd d) b n 0]) (n:Int) es else none)) Q) :
  ∀ (dd i:Nat),i+dd=n→aFd es (rd d) b n 0=aFd es (rd d) b dd i→Ep (fun k=>aAw.l1 k d b (-1) (i:Int) (n:Int) es) Q:=by
 have hn:=g.n6
 intro dd
 induction dd with
 | zero =>
  intro i hi he
  rw[he]at hk
  simp only[aFd]at hk
  refine Ep.up ?_
  simp only[aAw.l1]
  refine Ep.neg (by omega) (Ep.up ?_)
  simp only[aAw.j2]
  exact Ep.neg (by simp) hk
 | succ dd ih =>
  intro i hi he
  refine Ep.up ?_
  simp only[aAw.l1]
  refine Ep.pos (by omega) (Ep.up ?_)
  simp only[aAw.j2]
  refine Ep.pos (by simp) ?_
  have h2:=aMm (Q:=Q) g d hd b hok hbl i (by omega) ?_ b.length 0 (by omega)
  ·simpa[aDn]using h2
  ·replace he:aFd es (rd d) b n 0=(if(i:Int)∉b∧rd d i<aDn es b i then(i:Int) else aFd es (rd d) b dd (i+1)):=he
   by_cases h:(i:Int)∉b∧rd d i<aDn es b i
   ·rw[if_pos h]at he ⊢
    rw[he]at hk
    refine Ep.up ?_
    simp only[aAw.l1]
    refine Ep.ite (fun _=>?_) (fun _=>?_)
    ·refine Ep.up ?_
     simp only[aAw.j2]
     exact Ep.neg (by simp) hk
    ·refine Ep.up ?_
     simp only[aAw.j2]
     exact Ep.neg (by simp) hk
   ·rw[if_neg h]at he ⊢
    exact ih (i+1) (by omega) he
theorem aMo {n:Nat} {es:List E} {q:Int} (g:Gr n es q) (d:List Int) (hd:d.length=n):∀ (k:Nat) (b:List Int),n+1≤b.length+k→aKe n es (rd d) q b→Ep (fun f=>aAw.l0 f d b (n:Int) es) (·=aLh n es (rd d) k b):=by
 have hn:=g.n6
 intro k
 induction k with
 | zero =>
  intro b hl hb
  have:=hb.len g.hq
  omega
 | succ k ih =>
  intro b hl hb
  have hok:=hb.ok g.hq
  have hlen:=hb.len g.hq
  refine Ep.up ?_
  simp only[aAw.l0]
  refine aMn (Q:=(·=aLh n es (rd d) (k+1) b)) g d hd b ⟨hok.1,hok.2.1⟩ hlen ?_ n 0 (by omega) rfl
  unfold aLh
  have hnx:=aI1 es (rd d) b n 0
  generalize aFd es (rd d) b n 0=v at hnx ⊢
  refine Ep.ite (fun h=>Ep.now ?_) (fun h=>?_)
  ·rw[if_pos h]
  ·rw[if_neg h]
   rcases hnx with ⟨h2,_⟩|⟨h2,h3,h4,h5⟩
   ·omega
   ·exact Ep.pos (by omega) (ih _ (by simp;omega) (hb.step (by omega) (by omega) h4 h5))
theorem aNt {n:Nat} {es:List E} {q:Int} (g:Gr n es q) (d:List Int) (hd:d.length=n):Ep (fun k=>aAw.f k (n:Int) es d q) (·=aHw n es (rd d) q):=by
 have hn:=g.n6
 simp only[aAw.f]
 exact aMo g d hd n [q] (by simp;omega) .start
end Go.Proofs.Ytnbljcgdgblgoaa.Cf
end
section
namespace Go.Proofs.Ytnbljcgdgblgoaa.Cf
open Go.RowKit Go.Proofs.YtnbljcgdgblgoaaW.PrintWords Go.Proofs.Ytnbljcgdgblgoaa.P
theorem aPx {es:List E} {i:Nat} (h:i<es.length):es.getD i ⟨0,0⟩=es[i]:=by
 rw[List.getD_eq_getElem?_getD,List.getElem?_eq_getElem h]
 rfl
theorem aHf {es:List E} {tk:List Bool} {b:Nat}:∀ {d i:Nat},nextE es tk b d i=none→∀ j,i≤j→j<i+d→tk.getD j true=true∨crossE b (es.getD j ⟨0,0⟩)=false
 | 0,_,_,j,_,_=>by omega
 | d+1,i,h,j,h1,h2=>by
  unfold nextE at h
  split at h
  ·cases h
  ·rename_i c
   by_cases e:j=i
   ·subst e
    simp only[Bool.and_eq_true,Bool.not_eq_true',not_and,Bool.not_eq_true]at c
    by_cases t:tk.getD j true=true
    ·exact Or.inl t
    ·exact Or.inr (c (by simpa using t))
   ·exact aHf h j (by omega) (by omega)
theorem count_set {tk:List Bool} {i:Nat} (hi:i<tk.length) (h:tk.getD i true=false):(tk.set i true).count false+1=tk.count false:=by
 have e:tk[i]=false:=by
  rw[List.getD_eq_getElem?_getD,List.getElem?_eq_getElem hi]at h
  exact h
 have hm:0<tk.count false:=List.count_pos_iff.2 (by rw[← e];exact List.getElem_mem hi)
 rw[List.count_set hi,e]
 simp
 omega
theorem aM3 {b o v:Nat} (h:b.testBit v=true):(b ||| 2^o).testBit v=true:=by rw[Nat.testBit_or,h,Bool.true_or]
theorem aGk (b o:Nat):(b ||| 2^o).testBit o=true:=by rw[Nat.testBit_or,Nat.testBit_two_pow,decide_eq_true rfl,Bool.or_true]
theorem aNm {n:Nat} {es:List E} (hes:∀ e∈es,EOk n e) {b i:Nat} (hi:i<es.length) (hc:crossE b (es.getD i ⟨0,0⟩)=true):otherE es b i<n∧b.testBit (otherE es b i)=false∧(b ||| 2^otherE es b i).testBit (es.getD i ⟨0,0⟩).f0.toNat=true∧(b ||| 2^otherE es b i).testBit (es.getD i ⟨0,0⟩).f1.toNat=true:=by
 have he:=hes _ (List.getElem_mem hi)
 unfold EOk at he
 rw[aPx hi]at hc ⊢
 unfold otherE
 rw[aPx hi]
 unfold crossE at hc
 by_cases c:b.testBit es[i].f0.toNat=true
 ·rw[if_pos c]
  rw[c]at hc
  refine⟨by omega,?_,aM3 c,aGk _ _⟩
  cases h:b.testBit es[i].f1.toNat with
  | false=>rfl
  | true=>rw[h]at hc;simp at hc
 ·rw[if_neg c]
  have c':b.testBit es[i].f0.toNat=false:=by simpa using c
  rw[c']at hc
  refine⟨by omega,c',aGk _ _,aM3 ?_⟩
  cases h:b.testBit es[i].f1.toNat with
  | true=>rfl
  | false=>rw[h]at hc;simp at hc
theorem aS6 {n:Nat} (es:List E) {v:Int} (hn:n≤6) (h0:0≤v) (h1:v<n) (t:Int):aEv.f (n:Int) es v t=some ((List.replicate n (0:Int)).set v.toNat t):=by
 unfold aEv.f
 rw[if_pos (by omega),if_pos (by omega),Option.bind_some,if_pos h0,if_pos (by simp;omega)]
 rfl
end Go.Proofs.Ytnbljcgdgblgoaa.Cf
end
