/- A part of the proof of aF3. -/
import Derived.Test.YtnbljcgdgblgoaaGreatBFnLists1
import Derived.Test.YtnbljcgdgblgoaaGreatBFnLists0
import Derived.Deep.LoopGhost
import Derived.Test.YtnbljcgdgblgoaaGreatBFnListsWWords
import Derived.Test.YtnbljcgdgblgoaaGreatBFnListsWMore
import Derived.Laws.BitsLemmas
import Derived.StillTailTactics
set_option linter.unusedVariables false
set_option linter.unusedSimpArgs false
set_option maxHeartbeats 8000000
set_option maxRecDepth 1000000
namespace Go.Proofs.YtnbljcgdgblgoaaGreat
open Go.RowKit Go.Proofs.YtnbljcgdgblgoaaGreatW.PrintWords Go.Proofs.YtnbljcgdgblgoaaGreatW.PrintLast Go.Proofs.YtnbljcgdgblgoaaGreatW.PrintMore
attribute [local go_sem] max2_int min2_int max_two min_two max_three min_three max_four min_four
namespace P
def aBh.f (k:Nat) (aD:Int) (aC:List S46) (a1:Int):Option (List (List Int)):=(aAn.f k aD aC).bind λt=>if t=true then(aCm.f a1 0 (wrap64 (aD-1))).bind λu=>if u=true then(aAp.f k aD aC).bind λL=>if ∀ r∈L,r.length<=1000000 then Cf.bB3 a1 L else none else some [] else some []
theorem aBh.mono:∀ a0 a1 a2 k,LeO (aBh.f k a0 a1 a2) (aBh.f (k+1) a0 a1 a2):=by
 intro a0 a1 a2 k;unfold aBh.f;exact LeO.bind (aAn.mono _ _ k) λt=>LeO.ite (LeO.bind (LeO.refl _) λu=>LeO.ite (LeO.bind (aAp.mono _ _ k) λ_=>LeO.refl _) (LeO.refl _)) (LeO.refl _)
def aBh.T8:Bool×List (List Nat×List Nat):=(true,[([],[]),([],[]),([],[]),([],[]),([2,3],[2,3]),([1,4],[1,4]),([],[]),([],[]),([7],[7]),([6,8],[6,8]),([5,9,5],[5,9]),([10],[10]),([0,11,10],[0,11]),([12,12,0,1,2,3,4,5,6,7,8,9,10,11,12],[0,12])])
def aBh.B8:List Nat:=[0,0,0,0,12,30,0,0,128,448,1022,2046,4095,8191]
theorem aBh.bSs:aIo .any (opsOf Tryz.f70 8)=aBh.T8:=by kernel_rfl
theorem aBh.bPi:aFn aBh.T8.2 aBh.B8=true:=by kernel_rfl
theorem aBh.calls (k:Nat) (aD:Int) (aH:Option Addr) (aG:Nat) (aC:List S46) (a1:Int) (r:List (List Int)) (w:World) (hr0_1:Kd.C k46 w aH aC.length aC) (hc0_1:aC.length<=aG) (h:aBh.f k aD aC a1=some r) :
  Calls Tryz.prog 70 #[.agg #[.int .i64 aD,.slice aH aC.length aG],.int .i64 a1] w λe w'=>∃ v0_:Value,e = .returned (v0_)/\Kd.S (Kd.slice 3 (Kd.int .i64)) 26 w' w.heap.size (λ_=>True) v0_ r/\Below w.heap.size w w':=by
 have bTb:=Tryz.underlying25;have HR:=zK_ hr0_1;have HC:=zK_ hc0_1;clear hr0_1 hc0_1;have H:((aAn.f k aD aC).bind λt=>if t=true then(aCm.f a1 0 (wrap64 (aD-1))).bind λu=>if u=true then(aAp.f k aD aC).bind λL=>if ∀ r∈L,r.length<=1000000 then Cf.bB3 a1 L else none else some [] else some [])=some r:=h;clear h;obtain⟨t,hv,H⟩:=zO_ H;have HV:=zK_ hv;clear hv;have HB:=zK_ (aB7 (Below.refl w.heap.size w) (.cells #[.int .i64 aD,.slice aH aC.length aG] 25));have BK:=zK_ (heap_alloc_new w (.cells #[.int .i64 aD,.slice aH aC.length aG] 25))
 cases t with
 | false =>
  obtain rfl:=zdI H;clear H;go_enter Tryz.func70,Tryz.ntmps70;(go_wp2_with fail);refine(aAn.calls k _ _ _ aC false _ (Kd.aC4 HR.out HB.out) HC.out HV.out).mono ?_;rintro e w1 ⟨rfl,hb⟩;have HB1:=zK_ (aA1 HB.out hb);clear hb;go_wp2;go_ret;exact⟨_,rfl,Kd.aLo _ _ _ _ _,HB1.out⟩
 | true =>
  rw[if_pos rfl]at H;obtain⟨u,hu,H⟩:=zO_ H;have HU:=zK_ hu;clear hu
  cases u with
  | false =>
   obtain rfl:=zdI H;clear H;go_enter Tryz.func70,Tryz.ntmps70;(go_wp2_with fail);refine(aAn.calls k _ _ _ aC true _ (Kd.aC4 HR.out HB.out) HC.out HV.out).mono ?_;rintro e w1 ⟨rfl,hb⟩;have HB1:=zK_ (aA1 HB.out hb);have uZ:=zK_ (aA4 BK.out hb);clear hb;have hz0:w1.cell? ⟨w.heap.size,0,none⟩=some (.int .i64 aD):=(aAc uZ.out 0).trans rfl;have hz1:w1.cell? ⟨w.heap.size,1,none⟩=some (.slice aH aC.length aG):=(aAc uZ.out 1).trans rfl;(go_wp2_with fail);refine(aCm.calls _ _ _ false _ HU.out).mono ?_;rintro e w1a ⟨rfl,hd⟩;have bO1:=zK_ (aA1 HB1.out hd.below);clear hd;go_wp2;go_ret;exact⟨_,rfl,Kd.aLo _ _ _ _ _,bO1.out⟩
  | true =>
   rw[if_pos rfl]at H;obtain⟨L,hL,H⟩:=zO_ H;have HL:=zK_ hL;clear hL;(split at H);(case isFalse=>cases H);rename_i hlen;have HLEN:=zK_ hlen;clear hlen;unfold Cf.bB3 at H;split at H
   ·rename_i hq;obtain rfl:=zdI H;clear H;obtain⟨hq0,hq1,hq2,hq3⟩:=hq;obtain⟨q,rfl⟩:=Int.eq_ofNat_of_zero_le hq0;rw[Int.toNat_natCast];have HQ:=zK_ (show q<=1000000/\L.length<=1000000/\∀ r∈L,q<r.length from ⟨by omega,hq2,λr hr=>by have:=hq3 r hr;omega⟩);clear hq0 hq1 hq2 hq3;go_enter Tryz.func70,Tryz.ntmps70;(go_wp2_with fail);refine(aAn.calls k _ _ _ aC true _ (Kd.aC4 HR.out HB.out) HC.out HV.out).mono ?_;rintro e w1 ⟨rfl,hb⟩;have HB1:=zK_ (aA1 HB.out hb);have uZ:=zK_ (aA4 BK.out hb);clear hb;have hz0:w1.cell? ⟨w.heap.size,0,none⟩=some (.int .i64 aD):=(aAc uZ.out 0).trans rfl;have hz1:w1.cell? ⟨w.heap.size,1,none⟩=some (.slice aH aC.length aG):=(aAc uZ.out 1).trans rfl;(go_wp2_with fail);refine(aCm.calls _ _ _ true _ HU.out).mono ?_;rintro e w1a ⟨rfl,hd⟩;have bO1:=zK_ (aA1 HB1.out hd.below);have bQ5:=zK_ (aA4 uZ.out hd.below);clear hd hz0 hz1;have hz0:w1a.cell? ⟨w.heap.size,0,none⟩=some (.int .i64 aD):=(aAc bQ5.out 0).trans rfl;have hz1:w1a.cell? ⟨w.heap.size,1,none⟩=some (.slice aH aC.length aG):=(aAc bQ5.out 1).trans rfl;(go_wp2_with (first|((with_reducible refine aAj (N:=19) rfl ?_);refine Kd.bHb (w0:=w) (Kd.slice 3 (Kd.int .i64)) w.heap.size 26 ?hg (N:=19) ?hd (xs:=([]:List (List Int))) (inner:=[]) (ok:=λ_=>True) (okp:=λ_=>True) ?hr ?hp (λ_ hk=>hk) trivial bO1.out (aAa bO1.out) (by simp) ?_;(case hd=>rfl);(case hg=>rfl);(case hr=>exact aD9);(case hp=>exact(aEs.none _ _));intro v19 w1b ho hb hg_ aF7;have HS0:=zK_ ho;have bRu:=zK_ hb;have bRv:=zK_ (aAt bQ5.out hg_ (by simp));clear ho hb hg_ aF7;have hy0:w1b.cell? ⟨w.heap.size,0,none⟩=some (.int .i64 aD):=(aAc bRv.out 0).trans rfl;have hy1:w1b.cell? ⟨w.heap.size,1,none⟩=some (.slice aH aC.length aG):=(aAc bRv.out 1).trans rfl)));refine(aAp.calls k _ _ _ aC L _ (Kd.aC4 HR.out bRu.out) HC.out HL.out).mono ?_;rintro e w2 ⟨vL,rfl,hS,hb⟩;have HB2:=zK_ (aA1 bRu.out hb);obtain⟨AL,cL,eL,hcL,_⟩:=Kd.aTp hS;subst eL;have HSL:=zK_ (Kd.aE4 (Kd.aEp hS) (ok':=λk=>w1b.heap.size<=k/\k<w2.heap.size) λk hk=>⟨hk.2.1,hk.2.2.1⟩);have HSI:=zK_ (Kd.aE4 (Kd.aEp (Kd.aD8 (Kd.aEp HS0.out) hb)) (ok':=λk=>k<w1b.heap.size∨w2.heap.size<=k) λk hk=>.inl hk.1.2.2.1);have HW:=zK_ hb.size;have hLl:L.length<=cL:=hcL;clear hS hb hcL hz0 hz1 hy0 hy1 HS0;go_wp2;(go_loopw [5,23] (λv5 v23 wr=>∃ i:Nat,v23 = .int .i64 (i:Int)/\aA2 (i<=L.length/\w2.heap.size<=wr.heap.size)/\aA2 (Below w.heap.size w wr)/\aA2 (Kd.S (Kd.slice 3 (Kd.int .i64)) 26 wr w1b.heap.size (λk=>w1b.heap.size<=k/\k<w2.heap.size) (.slice AL L.length cL) L)/\aA2 (Kd.S (Kd.slice 3 (Kd.int .i64)) 26 wr w.heap.size (λk=>k<w1b.heap.size∨w2.heap.size<=k) v5 (Cf.aHr q L i))) (λ_ v _=>L.length-(intOf v).toNat));case atStart=>exact⟨0,rfl,⟨Nat.zero_le _,Nat.le_refl _⟩,HB2,HSL,HSI⟩
    case round =>
     obtain⟨i,rfl,HI,HBr,HLr,HS⟩:=hrel;by_cases hlt:i<L.length;rotate_left
     ·have c0:decide ((i:Int)<(L.length:Int))=false:=zdN (by omega);(have hi:i=L.length:=by have:=HI.out;omega);subst hi;clear hlt;go_wp2;go_ret;exact⟨_,rfl,Kd.aE4 HS.out (λ_ _=>trivial),HBr.out⟩
     have c0:decide ((i:Int)<(L.length:Int))=true:=zdY (by omega);obtain⟨x,hxi⟩:∃ x,L[i]? = some x:=⟨_,zdH hlt⟩
     have hx:aBt L (i:Int)=x:=by
      unfold aBt;rw[Int.toNat_natCast,zdG,hxi];rfl
     (have p1:(0:Int)<=(i:Int):=by omega);(have p2:(i:Int)<(L.length:Int):=by omega);obtain⟨gL,Ai,ci,eg,hcell,hci,hCi⟩:=aH8 (Kd.aEm HLr.out).2.2 (i:Int) p1 p2;subst eg;rw[hx]at hcell hci hCi;rw[Int.toNat_natCast]at hcell;have HRi:=zK_ hCi;have HCi:=zK_ hci;(have hib:(i:Int)<=1000000:=by have:=HQ.out.2.1;omega);(have hq0:(0:Int)<=(q:Int):=by omega);(have hqb:(q:Int)<=1000000:=by have:=HQ.out.1;omega);have HLT:=zK_ hlt;have HXI:=zK_ hxi;clear hxi hlt hCi hci hx;by_cases hq:i=q
     ·(have c1:((i:Int)==(q:Int))=true:=by simp[hq]);(have c2:((i:Int) != (q:Int))=false:=by simp[hq]);have HQI:=zK_ hq;clear hq;go_wp2;go_roundw
      case rel =>
       refine⟨i+1,by go_num,⟨by have:=HLT.out;omega,HI.out.2⟩,HBr,HLr,⟨?_⟩⟩;have e:Cf.aHr q L (i+1)=Cf.aHr q L i:=if_pos HQI.out;rw[e];exact HS.out
      case measure =>
       have:=HLT.out;(simp[intOf]);omega
     (have c1:((i:Int)==(q:Int))=false:=by simp;omega);(have c2:((i:Int) != (q:Int))=true:=by simp;omega);have HQI:=zK_ hq;clear hq;have hql:q<x.length:=HQ.out.2.2 x (List.mem_of_getElem? HXI.out);have HXL:=zK_ (show q<x.length/\x.length<=1000000 from ⟨hql,HLEN.out x (List.mem_of_getElem? HXI.out)⟩);have HKL:=zK_ (Cf.aNf q L i);(try go_wp2);have HBd:=zK_ (aAx HBr.out);have HId:=zK_ (show w2.heap.size<=wr.drew.heap.size from HI.out.2);have HLd:=zK_ (Kd.aE9 HLr.out);have HSd:=zK_ (Kd.aE9 HS.out);have HRd:=zK_ (Kd.aC4 HRi.out (aGi (Below.refl _ _)));clear HBr HS HRi HLr;obtain⟨it,hit,_,bG5,_⟩:=info_parts info3;obtain⟨bOw,hAt,hCt⟩:=aKq (P:=Tryz.prog) (Value.int .i64) 0 26 3 .i64 Tryz.underlying26 hit bG5 Ai ci x (q:Int) hq0 (by omega) HCi.out;obtain⟨ji,hji⟩:∃ j:Int,wrap64 ((q:Int)+1)=j:=⟨_,rfl⟩;have bTd:IntKind.i64.wrap ((q:Int)+1)=ji:=(aFm _).trans hji;have HJ:=zK_ (show ji=((q:Int)+1) from by rw[<-hji];unfold wrap64;omega);obtain⟨Ae,bOx,hAe,hCe⟩:=aGr (P:=Tryz.prog) (Value.int .i64) 0 26 3 .i64 Tryz.underlying26 hit bG5 Ai ci x ji (by have:=HJ.out;omega) (by have:=HJ.out;omega) HCi.out;rw[Int.toNat_natCast]at bOw hAt hCt;rw[show ji.toNat=q+1 from by have:=HJ.out;omega]at bOx hAe hCe;clear hit bG5 hCt hCe;refine aFp (n:=14) (S:=λw'=>True) (ds:=[]) (zM 14 0) (by kernel_rfl) rfl rfl trivial (λhHeld=>?_);refine aE1 aBh.bSs aBh.bPi (λHT_ HW_=>?_);generalize wr.drew=wd at HBd HSd HRd HId HLd hHeld ⊢;have HRt:=zK_ (Kd.aGj (h1:=λ_=>rfl) (hAt _ (Kd.aGg HRd.out)));have HRe:=zK_ (Kd.aGj (h1:=λ_=>rfl) (hAe _ (Kd.aGg HRd.out)));clear hAt hAe;refine zQ 0 31 (zM 14 1) ?_
     refine zQ 2 33 (zM 14 5) ?_
     refine zQ 3 34 (zM 14 13) ?_
     refine zQ 4 35 (zM 14 29) ?_
     refine zQ 6 37 (zM 14 93) ?_
     refine zQ 7 38 (zM 14 221) ?_
     refine zQ 8 39 (zM 14 477) ?_
     refine zQ 9 40 (zM 14 989) ?_
     refine aHv (i:=1) (N:=some 32) (zM 14 991) rfl rfl (aE3 HT_.out (by kernel_rfl)) (by decide) (λK hK=>?_);refine Kd.aOp (w0:=wd) (Kd.int .i64) wd.heap.size 3 ?hg (N:=32) ?hd (xs:=([]:List Int)) (inner:=[]) (ok:=λ_=>True) (okp:=λ_=>True) ?hr ?hp (λ_ hk=>hk) trivial (Below.refl _ _) (Nat.le_refl _) (by simp) ?_;(case hd=>rfl);(case hg=>rfl);(case hr=>exact aD9);(case hp=>exact(aEs.none _ _));intro vA wA hoA hbA hg_ aF7;clear hg_ aF7;have HOA:=zK_ hoA;have HBA:=zK_ hbA;clear hoA hbA;refine hK.out _ _ trivial (λhHeld=>?_);clear hK K;refine aEd (a':=?_) ?_ ?_;rotate_left
     ·show Act.put _ (some 32) _=_;exact zzS
     refine aHv (i:=5) (N:=some 36) (zM 14 1023) rfl rfl (aE3 HT_.out (by kernel_rfl)) (by decide) (λK hK=>?_);refine Kd.aFk (Kd.int .i64) (w0:=wd) wd.heap.size (by rfl) (.tmp 32) (.tmp 35) 26 3 (.int .i64 0) 8 rfl Tryz.underlying26 info3 rfl (by decide) (by omega) vA ([]:List Int) (x.take q) _ _ _ (λ_=>True) (λ_=>False) rfl rfl HOA.out (by have h_:=Kd.aC4 HRt.out HBA.out;rw[List.length_take]at h_;exact h_) (λ_ _ h=>h) (λ_ h=>h.elim) (λ_ _=>trivial) HBA.out (aAa HBA.out) (by have:=HXL.out;simp only[List.length_nil,List.length_take];omega) ?_;intro vB wB hoB hbB hg_ bKn;clear hg_ bKn;have HOB:=zK_ hoB;have HBB:=zK_ hbB;clear hoB hbB HOA HBA;refine hK.out _ _ trivial (λhHeld=>?_);clear hK K;refine aEd (a':=?_) ?_ ?_;rotate_left
     ·show Act.put _ (some 36) _=_;exact zzS
     refine aHv (i:=10) (N:=some 41) (zM 14 2047) rfl rfl (aE3 HT_.out (by kernel_rfl)) (by decide) (λK hK=>?_);refine Kd.aFk (Kd.int .i64) (w0:=wd) wd.heap.size (by rfl) (.tmp 36) (.tmp 40) 26 3 (.int .i64 0) 8 rfl Tryz.underlying26 info3 rfl (by decide) (by omega) vB ([]++x.take q) (x.drop (q+1)) _ _ _ (λ_=>True) (λ_=>False) rfl rfl HOB.out (by have h_:=Kd.aC4 HRe.out HBB.out;rw[List.length_drop]at h_;exact h_) (λ_ _ h=>h) (λ_ h=>h.elim) (λ_ _=>trivial) HBB.out (aAa HBB.out) (by have:=HXL.out;simp only[List.nil_append,List.length_drop,List.length_take];omega) ?_;intro vC wC hoC hbC hg_ bKn;clear hg_ bKn;rw[List.nil_append,<-List.eraseIdx_eq_take_drop_succ]at hoC;obtain⟨Ad,cd,ed⟩:=Kd.aBr hoC;subst ed;have HD:=zK_ (Kd.aBs (Kd.aFg (Kd.aCn hoC (Nat.le_refl wd.heap.size))) (ok':=λk=>wd.heap.size<=k) λk hk=>hk.2.1);have HBC:=zK_ hbC;clear hoC hbC HOB HBB;refine hK.out _ _ trivial (λhHeld=>?_);clear hK K;refine aEd (a':=?_) ?_ ?_;rotate_left
     ·show Act.put _ (some 41) _=_;exact zzS
     refine aHv (i:=11) (N:=some 42) (zM 14 4095) rfl rfl (aE3 HT_.out (by kernel_rfl)) (by decide) (λK hK=>?_);refine bDn (w1:=?_) (v:=?_) (by rfl) rfl ?_ ?_;rotate_left 2
     ·go_simp;constructor
      ·rfl
      ·rfl
     refine hK.out _ _ trivial (λhHeld=>?_);clear hK K;refine aEd (a':=?_) ?_ ?_;rotate_left
     ·show Act.put _ (some 42) _=_;exact zzS
     refine aHv (i:=12) (N:=some 43) (zM 14 8191) rfl rfl (aE3 HT_.out (by kernel_rfl)) (by decide) (λK hK=>?_);refine Kd.aPs (Kd.slice 3 (Kd.int .i64)) (w0:=w) w.heap.size (by rfl) (.tmp 31) (.tmp 42) 30 26 (.slice none 0 0) 24 rfl Tryz.underlying30 info26 rfl (by decide) (by omega) u5 (Cf.aHr q L i) (x.eraseIdx q) [.slice Ad (x.eraseIdx q).length cd] (λk=>k<w1b.heap.size∨w2.heap.size<=k) (λk=>wd.heap.size<=k) rfl rfl (Kd.aNt (Kd.aCn HD.out (aAa HBd.out))) ?aK (λk hk=>.inr (by have:=HId.out;have:=HBC.out.size;omega)) ?aO (aA1 HBd.out HBC.out) (aAa (aA1 HBd.out HBC.out)) ?aL ?_;(case aK=>exact λk hk=>⟨.inr (by have:=HId.out;omega),λe=>by have:=Kd.bEe HSd.out k e.symm;omega⟩);(case aO=>exact Kd.aE4 (Kd.aD8 (Kd.aEp HSd.out) HBC.out) λk hk=>⟨hk.1,λh=>by have:=hk.2.2.1;omega⟩);(case aL=>have:=HKL.out;have:=HQ.out.2.1;have:=HLT.out;omega);intro vE wE hoE hbE hgE bKn;have HOE:=zK_ hoE;have HBE:=zK_ hbE;have HLE:=zK_ (Kd.aNr (Kd.aD8 (Kd.aEp HLd.out) HBC.out) hgE λk hk e=>by have:=HSd.out.choose_spec.1 k e.symm;have:=hk.1;omega);have HZE:=zK_ hgE.size;clear hoE hbE hgE bKn;refine hK.out _ _ trivial (λhHeld=>?_);clear hK K;refine aEd (a':=?_) ?_ ?_;rotate_left
     ·show Act.put _ (some 43) _=_;exact zzS
     refine zQ 13 5 (zM 14 16383) ?_
     refine aH4 (aF8 HT_.out (by kernel_rfl)) ?_;(try go_wp2);go_roundw
     case rel =>
      refine⟨i+1,by go_num,⟨by have:=HLT.out;omega,by have:=HBC.out.size;have:=HZE.out;have:=HId.out;omega⟩,HBE,⟨Kd.aE4 HLE.out λk hk=>hk.1⟩,⟨?_⟩⟩
      ·have e:Cf.aHr q L (i+1)=Cf.aHr q L i++[x.eraseIdx q]:=by
        show (if i=q then _ else _)=_;rw[if_neg HQI.out,zdG,HXI.out];rfl
       rw[e];exact HOE.out
     case measure =>
      have:=HLT.out;(simp[intOf]);omega
   ·cases H
def aDc.f (k:Nat) (aD:Int) (aC:List (S46)):Option (Int):=(aAn.f k aD aC).bind λaQ=>(if aQ=true then((aBh.f k aD aC 0).bind λa6=>((aD6.f k a6).bind λb6=>(some b6))) else(some 0))
theorem aDc.mono:∀ a0 a1 k,LeO (aDc.f k a0 a1) (aDc.f (k+1) a0 a1):=by
 intro a0 a1 k;unfold aDc.f;repeat' first|(with_reducible apply aD6.mono)|(with_reducible apply aAn.mono)|(with_reducible apply aBh.mono)|(with_reducible exact LeO.refl _)|(with_reducible exact LeO.none _)|(with_reducible refine LeO.ite ?_ ?_)|(with_reducible refine LeO.bind ?_ (λ_=>?_))|apply aD6.mono|apply aAn.mono|apply aBh.mono|exact LeO.none _|refine LeO.ite ?_ ?_|refine LeO.bind ?_ (λ_=>?_)
theorem aDc.calls (k:Nat) (aD:Int) (aH:Option Addr) (aG:Nat) (aC:List (S46)) (r:Int) (w:World) (hr0_1:Kd.C k46 w aH aC.length aC) (hc0_1:aC.length<=aG) (h:aDc.f k aD aC=some r) :
  Calls Tryz.prog 39 #[.agg #[.int .i64 aD,.slice aH aC.length aG]] w λe w'=>e = .returned (.int .i64 r)/\Below w.heap.size w w':=by
 have aI5:=Tryz.underlying25;have b3:=zK_ hr0_1;have bE:=zK_ hc0_1;clear hr0_1 hc0_1;have HB:=zK_ (Below.refl w.heap.size w);have H:((aAn.f k aD aC).bind λaQ=>(if aQ=true then((aBh.f k aD aC 0).bind λa6=>((aD6.f k a6).bind λb6=>(some b6))) else(some 0)))=some r:=h;clear h;obtain⟨aQ,A20,H⟩:=zO_ H;(try dsimp only at H);have A2:=zK_ A20;clear A20;by_cases c3:aQ=true;rotate_left
 ·replace c3:=zdB c3;subst c3;rw[if_neg (show ¬ (false=true) by decide)]at H;obtain rfl:=zdI H;go_enter Tryz.func39,Tryz.ntmps39;(go_wp2_with (first|((with_reducible refine aAj (N:=1) rfl ?_);refine aAf ?hg (N:=1) ?hd (cs:=#[.int .i64 aD,.slice aH aC.length aG]) (t:=25) ?hr ?_;(case hd=>rfl);(case hg=>rfl);(case hr=>exact aD9);intro aE hg w13 hbox hb;have n_:=zA4 (aA1 zz2 hb) hbox (aDl:w.heap.size<=aE) (aDl:w.heap.size<=aE);clear HB;obtain⟨HB,aA,aDd,aD2⟩:=n_;clear hb hbox hg;have iG:=aCe aA;have iF:=aCd aA;have iE:=aA0 aA.out 0;have iD:=aA0 aA.out 1)|((with_reducible refine aA5 (f:=38) rfl ?_);refine aB8 (some 4) rfl rfl Tryz.func38 (by kernel_rfl) rfl #[.agg #[.int .i64 aD,.slice aH aC.length aG]] rfl zz3 ?_;(with_reducible refine(aAn.calls k aD _ _ aC false _ ?side1 ?side2 A2.out).mono ?_);(case side1=>exact zz5);(case side2=>exact bE.out);rintro e w15 ⟨rfl,hb⟩;refine⟨_,rfl,?_⟩;have n_:=zA2 (aA4 (g:=aE) (o:=.cells #[.int .i64 aD,.slice aH aC.length aG] 25 (0,0)) zz1 hb) (aA1 zz0 hb);clear aA HB;obtain⟨aA,HB⟩:=n_;clear hb)));go_ret;exact⟨zz7,zz0⟩
 subst c3;rw[if_pos rfl]at H;obtain⟨a6,A40,H⟩:=zO_ H;(try dsimp only at H);have A4:=zK_ A40;clear A40;obtain⟨b6,A50,H⟩:=zO_ H;(try dsimp only at H);have A5:=zK_ A50;clear A50;obtain rfl:=zdI H;go_enter Tryz.func39,Tryz.ntmps39;(go_wp2_with (first|((with_reducible refine aAj (N:=1) rfl ?_);refine aAf ?hg (N:=1) ?hd (cs:=#[.int .i64 aD,.slice aH aC.length aG]) (t:=25) ?hr ?_;(case hd=>rfl);(case hg=>rfl);(case hr=>exact aD9);intro aE hg w6 hbox hb;have n_:=zA4 (aA1 zz2 hb) hbox (aDl:w.heap.size<=aE) (aDl:w.heap.size<=aE);clear HB;obtain⟨HB,aA,aDd,aD2⟩:=n_;clear hb hbox hg;have gO:=aCe aA;have gN:=aCd aA;have gM:=aA0 aA.out 0;have gK:=aA0 aA.out 1)|((with_reducible refine aA5 (f:=38) rfl ?_);refine aB8 (some 4) rfl rfl Tryz.func38 (by kernel_rfl) rfl #[.agg #[.int .i64 aD,.slice aH aC.length aG]] rfl zz3 ?_;(with_reducible refine(aAn.calls k aD _ _ aC true _ ?side1 ?side2 A2.out).mono ?_);(case side1=>exact zz5);(case side2=>exact bE.out);rintro e w8 ⟨rfl,hb⟩;refine⟨_,rfl,?_⟩;have n_:=zA2 (aA4 (g:=aE) (o:=.cells #[.int .i64 aD,.slice aH aC.length aG] 25 (0,0)) zz1 hb) (aA1 zz0 hb);clear aA HB;obtain⟨aA,HB⟩:=n_;clear hb;have g6:=aCe aA;have g5:=aCd aA;have g4:=aA0 aA.out 0;have g3:=aA0 aA.out 1)|((with_reducible refine aA5 (f:=70) rfl ?_);refine aB8 (some 7) rfl rfl Tryz.func70 (by kernel_rfl) rfl #[.agg #[.int .i64 aD,.slice aH aC.length aG],.int .i64 0] rfl zz3 ?_;(with_reducible refine(aBh.calls k aD _ _ aC 0 a6 _ ?side1 ?side2 A4.out).mono ?_);(case side1=>exact zz5);(case side2=>exact bE.out);rintro e w10 ⟨bDs,rfl,ho0,hb⟩;refine⟨_,rfl,?_⟩;have n_:=zA3 (Kd.aJg ho0 (aAa zz0)) (aA4 (g:=aE) (o:=.cells #[.int .i64 aD,.slice aH aC.length aG] 25 (0,0)) zz1 hb) (aA1 zz0 hb);clear aA HB;obtain⟨cB,aA,HB⟩:=n_;clear ho0 hb;obtain⟨bO4,aS4,pF⟩:=Kd.aGa cB.out;subst pF)|((with_reducible refine aA5 (f:=69) rfl ?_);refine aB8 (some 8) rfl rfl Tryz.func69 (by kernel_rfl) rfl #[.slice bO4 a6.length aS4] rfl zz3 ?_;(with_reducible refine(aD6.calls k _ _ a6 b6 _ ?side1 ?side2 A5.out).mono ?_);(case side1=>repeat(first|exact(Kd.aEm cB.out).2.2|(with_reducible refine Kd.aCy ?_ _)|(with_reducible refine Kd.aCx ?_ _)|(with_reducible refine Kd.aDf ?_)));(case side2=>exact(Kd.aEm cB.out).2.1);rintro e w12 ⟨rfl,hb⟩;refine⟨_,rfl,?_⟩;have n_:=zA3 (Kd.aD8 (by(with_reducible repeat(first|apply Kd.aE0|apply Kd.aDz|apply Kd.aE9));exact cB.out) hb) (aA4 (g:=aE) (o:=.cells #[.int .i64 aD,.slice aH aC.length aG] 25 (0,0)) zz1 hb) (aA1 zz0 hb);clear cB aA HB;obtain⟨cB,aA,HB⟩:=n_;clear hb)));go_ret;exact⟨zz7,zz0⟩
end P
namespace Cf
def aJz (s:List Int):Nat:=if s.length=0 then 0 else(s.getD (s.length-1) 0).toNat+1
def aMo (s:List Int) (j:Nat):List (List Int):=(List.range (j-aJz s)).map λd=>s++[((aJz s+d:Nat):Int)]
def aGf (n:Nat):Nat->List (List Int)
 | 0=>[[]]
 | k+1=>(aGf n k).flatMap λs=>aMo s n
def aUr (n:Nat) (L:List (List Int)) (i:Nat):List (List Int):=(L.take i).flatMap λs=>aMo s n
theorem aRe (s:List Int) {j:Nat} (h:j<=aJz s):aMo s j=[]:=by
 unfold aMo
 rw[Nat.sub_eq_zero_of_le h]
 rfl
theorem aRd (s:List Int) {j:Nat} (h:aJz s<=j):aMo s (j+1)=aMo s j++[s++[(j:Int)]]:=by
 unfold aMo
 rw[show j+1-aJz s=(j-aJz s)+1 by omega,List.range_succ,List.map_append]
 simp only[List.map_cons,List.map_nil]
 rw[show aJz s+(j-aJz s)=j by omega]
theorem aQq (n:Nat) {L:List (List Int)} {i:Nat} {x:List Int} (h:L[i]? = some x):aUr n L (i+1)=aUr n L i++aMo x n:=by
 unfold aUr
 rw[List.take_add_one,h,List.flatMap_append]
 simp
theorem bC2 (n:Nat) (L:List (List Int)):aUr n L L.length=L.flatMap λs=>aMo s n:=by
 unfold aUr
 rw[List.take_length]
theorem aPi (s:List Int) (j:Nat):(aMo s j).length<=j:=by
 unfold aMo
 rw[List.length_map,List.length_range]
 omega
theorem aPh (n:Nat):∀ L:List (List Int),(L.flatMap λs=>aMo s n).length<=n*L.length
 | []=>by simp
 | s::L=>by
  have h1:=aPi s n
  have h2:=aPh n L
  rw[List.flatMap_cons,List.length_append,List.length_cons,Nat.mul_succ]
  omega
theorem aUq (n:Nat) (L:List (List Int)) (i:Nat):(aUr n L i).length<=n*L.length:=Nat.le_trans (aPh n _) (Nat.mul_le_mul_left _ (by rw[List.length_take];omega))
theorem aQj {n:Nat} (hn:n<=12):∀ k,(aGf n k).length<=12^k
 | 0=>by simp[aGf]
 | k+1=>by
  have h1:=aQj hn k
  have h2:=aPh n (aGf n k)
  have h3:=Nat.mul_le_mul hn h1
  rw[Nat.pow_succ]
  show ((aGf n k).flatMap λs=>aMo s n).length<=_
  omega
theorem aOb {n:Nat} (hn:n<=12) {k:Nat} (hk:k<=6):(aGf n k).length<=2985984:=Nat.le_trans (aQj hn k) (Nat.pow_le_pow_right (show 0<12 by omega) hk)
theorem aMi {n:Nat}:∀ {k:Nat} {s:List Int},s∈aGf n k->s.length=k/\∀ x∈s,0<=x/\x<(n:Int)
 | 0,s,h=>by
  rw[aGf,List.mem_singleton]at h
  subst h
  exact⟨rfl,λx hx=>by cases hx⟩
 | k+1,s,h=>by
  rw[aGf,List.mem_flatMap]at h
  obtain⟨t,ht,h⟩:=h
  unfold aMo at h
  obtain⟨d,hd,rfl⟩:=List.mem_map.1 h
  rw[List.mem_range]at hd
  obtain⟨h1,h2⟩:=aMi ht
  refine⟨by rw[List.length_append,h1];rfl,λx hx=>?_⟩
  rcases List.mem_append.1 hx with hx|hx
  ·exact h2 x hx
  ·rw[List.mem_singleton]at hx
   omega
theorem bGe {n k:Nat} {s:List Int} (h:s∈aGf n k):aJz s<=n:=by
 obtain⟨h1,h2⟩:=aMi h
 unfold aJz
 by_cases c:s.length=0
 ·rw[if_pos c];omega
 ·rw[if_neg c,zdG,zdH (by omega)]
  have:=h2 _ (List.getElem_mem (l:=s) (n:=s.length-1) (by omega))
  simp only[Option.getD_some]
  omega
theorem bL7 (s:List Int) (h:∀ x∈s,0<=x):aJz s=0∨∃ x,x∈s/\(aJz s:Int)=x+1:=by
 unfold aJz
 by_cases c:s.length=0
 ·exact Or.inl (if_pos c)
 ·refine Or.inr ⟨s[s.length-1],List.getElem_mem _,?_⟩
  have:=h _ (List.getElem_mem (l:=s) (n:=s.length-1) (by omega))
  rw[if_neg c,zdG,zdH (by omega)]
  simp only[Option.getD_some]
  omega
theorem bL8 {s:List Int} (h:s.Pairwise (·<·)) (h0:∀ x∈s,0<=x) {a:Int} (ha:a∈s):a<(aJz s:Int):=by
 obtain⟨i,hi,rfl⟩:=List.getElem_of_mem ha
 unfold aJz
 rw[if_neg (by omega),zdG,zdH (by omega)]
 simp only[Option.getD_some]
 have h1:=h0 _ (List.getElem_mem (l:=s) (n:=s.length-1) (by omega))
 by_cases c:i=s.length-1
 ·subst c
  omega
 ·have:=List.pairwise_iff_getElem.1 h i (s.length-1) hi (by omega) (by omega)
  omega
end Cf
namespace P
def aEx.f (a0 a1:Int):Option (List (List Int)):=if 0<=a0/\a0<=12/\0<=a1/\a1<=6 then some (Cf.aGf a0.toNat a1.toNat) else none
theorem aEx.bLq (n:Nat) (hn:n<=12):∀ (m:Nat),m<=6->∀ w:World,
  Calls Tryz.prog 40 #[.int .i64 (n:Int),.int .i64 (m:Int)] w λe w'=>∃ v0_:Value,e = .returned (v0_)/\Kd.S (Kd.slice 3 (Kd.int .i64)) 26 w' w.heap.size (λ_=>True) v0_ (Cf.aGf n m)/\Below w.heap.size w w':=by
 intro m
 induction m with
 | zero =>
  intro hm w;have HB:=zK_ (Below.refl w.heap.size w);go_enter Tryz.func40,Tryz.ntmps40;(go_wp2_with (first|((with_reducible refine aAj (N:=12) rfl ?_);refine Kd.aL2 (w0:=w) (Kd.int .i64) w.heap.size 3 ?hg (N:=12) ?hd (xs:=([]:List Int)) (inner:=[]) (ok:=λ_=>True) (okp:=λ_=>True) ?hr ?hp (λ_ hk=>hk) trivial HB.out (aAa HB.out) (by simp) ?_;(case hd=>rfl);(case hg=>rfl);(case hr=>exact aD9);(case hp=>exact(aEs.none _ _));intro vA wA ho hb hg_ aF7;have HOA:=zK_ ho;have HBA:=zK_ hb;clear ho hb hg_ aF7;obtain⟨Ad,cd,ed⟩:=Kd.aBr HOA.out;subst ed)|((with_reducible refine aAj (N:=13) rfl ?_);refine Kd.bEf (w0:=w) (Kd.slice 3 (Kd.int .i64)) w.heap.size 26 ?hg (N:=13) ?hd (xs:=([[]]:List (List Int))) (inner:=[.slice Ad 0 cd]) (ok:=λ_=>True) (λj k=>j=0) ?hr rfl ?hp (λi j k hi hj=>hi.trans hj.symm) (λ_ _ _=>trivial) trivial HBA.out (aAa HBA.out) (by simp) ?_;(case hd=>rfl);(case hg=>rfl);(case hr=>exact aD9);(case hp=>exact λj x hx=>match j,hx with|0,rfl=>Kd.aNt (Kd.aBs HOA.out λ_ _=>rfl)|_+1,h_=>absurd h_ (by simp));intro vB wB ho hb hg_ aF7;have HOB:=zK_ ho;have HBB:=zK_ hb;clear ho hb hg_ aF7)));go_ret;exact⟨_,rfl,HOB.out,HBB.out⟩
 | succ m ih =>
  intro hm w;have HB:=zK_ (Below.refl w.heap.size w);have HLn:=zK_ (Cf.aOb hn (k:=m) (by omega));have HOK:=zK_ (show ∀ x,x∈Cf.aGf n m->x.length=m/\(∀ y∈x,0<=y/\y<(n:Int))/\Cf.aJz x<=n from λx hx=>⟨(Cf.aMi hx).1,(Cf.aMi hx).2,Cf.bGe hx⟩);have e0:Cf.aGf n (m+1)=Cf.aUr n (Cf.aGf n m) (Cf.aGf n m).length:=(Cf.bC2 n _).symm;rw[e0];have IH:=zK_ (ih (by omega));clear ih e0;generalize Cf.aGf n m=L at HLn HOK IH ⊢;(have hm0:(m:Int)<=6:=by omega);(have hn0:(n:Int)<=12:=by omega);(have c1:(((m+1:Nat):Int)==0)=false:=by simp;omega);(have c2:wrap64 (((m+1:Nat):Int)-1)=(m:Int):=by unfold wrap64;omega);have c2w:IntKind.i64.wrap (((m+1:Nat):Int)-1)=(m:Int):=(aFm _).trans c2;generalize ((m+1:Nat):Int)=m1 at c1 c2 c2w ⊢;go_enter Tryz.func40,Tryz.ntmps40;(go_wp2_with (first|((with_reducible refine aAj (N:=14) rfl ?_);refine Kd.bHb (w0:=w) (Kd.slice 3 (Kd.int .i64)) w.heap.size 26 ?hg (N:=14) ?hd (xs:=([]:List (List Int))) (inner:=[]) (ok:=λ_=>True) (okp:=λ_=>True) ?hr ?hp (λ_ hk=>hk) trivial HB.out (aAa HB.out) (by simp) ?_;(case hd=>rfl);(case hg=>rfl);(case hr=>exact aD9);(case hp=>exact(aEs.none _ _));intro v14 w1 ho hb hg_ aF7;have HS0:=zK_ ho;have HB1:=zK_ hb;clear ho hb hg_ aF7)));refine(IH.out w1).mono ?_;rintro e w2 ⟨vL,rfl,hS,hb⟩;have HB2:=zK_ (aA1 HB1.out hb);obtain⟨AL,cL,eL,hcL,_⟩:=Kd.aTp hS;subst eL;have HSL:=zK_ (Kd.aE4 (Kd.aEp hS) (ok':=λk=>w1.heap.size<=k/\k<w2.heap.size) λk hk=>⟨hk.2.1,hk.2.2.1⟩);have HSI:=zK_ (Kd.aE4 (Kd.aEp (Kd.aD8 (Kd.aEp HS0.out) hb)) (ok':=λk=>k<w1.heap.size∨w2.heap.size<=k) λk hk=>.inl hk.1.2.2.1);have HW:=zK_ hb.size;have hLl:L.length<=cL:=hcL;clear hS hb hcL HS0;go_wp2;(go_loopw [5,20] (λv5 v20 wr=>∃ i:Nat,v20 = .int .i64 (i:Int)/\aA2 (i<=L.length/\w2.heap.size<=wr.heap.size)/\aA2 (Below w.heap.size w wr)/\aA2 (Kd.S (Kd.slice 3 (Kd.int .i64)) 26 wr w1.heap.size (λk=>w1.heap.size<=k/\k<w2.heap.size) (.slice AL L.length cL) L)/\aA2 (Kd.S (Kd.slice 3 (Kd.int .i64)) 26 wr w.heap.size (λk=>k<w1.heap.size∨w2.heap.size<=k) v5 (Cf.aUr n L i))) (λ_ v _=>L.length-(intOf v).toNat));case atStart=>exact⟨0,rfl,⟨Nat.zero_le _,Nat.le_refl _⟩,HB2,HSL,HSI⟩
  case round =>
   obtain⟨i,rfl,HI,HBr,HLr,HS⟩:=hrel;by_cases hlt:i<L.length;rotate_left
   ·have c0:decide ((i:Int)<(L.length:Int))=false:=zdN (by omega);(have hi:i=L.length:=by have:=HI.out;omega);subst hi;clear hlt;go_wp2;go_ret;exact⟨_,rfl,Kd.aE4 HS.out (λ_ _=>trivial),HBr.out⟩
   have c0:decide ((i:Int)<(L.length:Int))=true:=zdY (by omega);obtain⟨x,hxi⟩:∃ x,L[i]? = some x:=⟨_,zdH hlt⟩
   have hx:aBt L (i:Int)=x:=by
    unfold aBt;rw[Int.toNat_natCast,zdG,hxi];rfl
   (have p1:(0:Int)<=(i:Int):=by omega);(have p2:(i:Int)<(L.length:Int):=by omega);obtain⟨gL,_,_,eg,_,_,_⟩:=aH8 (Kd.aEm HLr.out).2.2 (i:Int) p1 p2;subst eg;obtain⟨cc,_,hM,hcell⟩:=Kd.aPr HLr.out ([]:List Int) (i:Int) p1 p2;obtain⟨vx,hvx,hRx⟩:=hM;subst hvx;replace hcell:=hcell 0 vx rfl;rw[show (L.getD ((i:Int)).toNat [])=x from hx]at hRx;(replace hRx:=Kd.aBs hRx (ok':=λk=>w1.heap.size<=k/\k<w2.heap.size) λk hk=>hk.1);obtain⟨Ai,ci,ei⟩:=Kd.aBr hRx;subst ei;rw[Int.toNat_natCast,show i*(Kd.slice 3 (Kd.int .i64)).sz+0=i from Nat.mul_one i]at hcell;have HRi:=zK_ hRx;clear hRx;(have hib:(i:Int)<=3000000:=by have:=HLn.out;omega);have HLT:=zK_ hlt;have HXI:=zK_ hxi;have hok:=HOK.out x (List.mem_of_getElem? hxi);have HOX:=zK_ hok;clear hxi hlt hx;(have hxl:(x.length:Int)<=6:=by have:=HOX.out.1;omega);(have hfb:(Cf.aJz x:Int)<=12:=by have:=HOX.out.2.2;omega);clear hok;by_cases c3:(x.length:Int)>0;rotate_left
   ·have gX:=zdN c3;have tA:decide (0<x.length)=false:=zdN (by omega);(have hf0:Cf.aJz x=0:=by unfold Cf.aJz;rw[if_pos (by omega)]);go_wp2;(go_loopw [5,9] (λv5 v9 wi=>∃ j:Nat,v9 = .int .i64 (j:Int)/\aA2 (Cf.aJz x<=j/\j<=n/\w2.heap.size<=wi.heap.size)/\aA2 (Below w.heap.size w wi)/\aA2 (Kd.S (Kd.slice 3 (Kd.int .i64)) 26 wi w1.heap.size (λk=>w1.heap.size<=k/\k<w2.heap.size) (.slice (some gL) L.length cL) L)/\aA2 (Kd.S (Kd.slice 3 (Kd.int .i64)) 26 wi w.heap.size (λk=>k<w1.heap.size∨w2.heap.size<=k) v5 (Cf.aUr n L i++Cf.aMo x j))/\aA2 (Kd.R (Kd.int .i64) 3 wi w1.heap.size (λk=>w1.heap.size<=k/\k<w2.heap.size) (.slice Ai x.length ci) x)) (λ_ v _=>n-(intOf v).toNat));case atStart=>exact⟨Cf.aJz x,by rw[hf0];rfl,⟨Nat.le_refl _,HOX.out.2.2,HI.out.2⟩,HBr,HLr,⟨by rw[Cf.aRe x (Nat.le_refl _),List.append_nil];exact HS.out⟩,HRi⟩
    case round =>
     obtain⟨j,rfl,HJ,HBi,HLi,HSi,HRj⟩:=hrel;(have hjb:(j:Int)<=12:=by have:=HJ.out;omega);by_cases hj:j<n
     ·have d0:decide ((j:Int)<(n:Int))=true:=zdY (by omega);have d1:decide (j<n)=true:=zdY hj;have HJN:=zK_ hj;clear hj;have HLA:=zK_ (show (Cf.aUr n L i++Cf.aMo x j).length<=36000000 from by rw[List.length_append];have a1:=Cf.aUq n L i;have a2:=Cf.aPi x j;have a3:=Nat.mul_le_mul hn HLn.out;omega);(go_wp2_with (first|((with_reducible refine aAj (N:=41) rfl ?_);refine Kd.aL2 (w0:=wr) (Kd.int .i64) wr.heap.size 3 ?hg (N:=41) ?hd (xs:=([]:List Int)) (inner:=[]) (ok:=λ_=>True) (okp:=λ_=>True) ?hr ?hp (λ_ hk=>hk) trivial (Below.refl _ _) (Nat.le_refl _) (by simp) ?_;(case hd=>rfl);(case hg=>rfl);(case hr=>exact aD9);(case hp=>exact(aEs.none _ _));intro vA wA ho hb hg_ aF7;have HOA:=zK_ ho;have HBA:=zK_ hb;clear ho hb hg_ aF7)|((with_reducible refine aBe (b:=.append) (xs:=#[.tmp 41,.tmp 42]) rfl ?_);at_builtin;refine Kd.aIk (Kd.int .i64) (w0:=wr) wr.heap.size rfl (.tmp 41) (.tmp 42) 26 3 (.int .i64 0) 8 rfl Tryz.underlying26 info3 rfl (by decide) (by omega) vA ([]:List Int) x _ _ _ (λ_=>True) (λ_=>False) rfl rfl HOA.out (Kd.aC4 (Kd.aAl HRj.out).2.2 HBA.out) (λ_ _ h=>h) (λ_ h=>h.elim) (λ_ _=>trivial) HBA.out (aAa HBA.out) (by have:=HOX.out.1;simp only[List.length_nil];omega) ?_;intro vB wB ho hb hg hat;have HOB:=zK_ ho;have HBB:=zK_ hb;clear ho hb hg hat)|((with_reducible refine aBe (b:=.append) (xs:=#[.tmp 43,.tmp 45]) rfl ?_);at_builtin;refine Kd.aD5 (Kd.int .i64) (w0:=wr) wr.heap.size rfl (.tmp 43) (.tmp 45) 26 3 (.int .i64 0) 8 rfl Tryz.underlying26 info3 rfl (by decide) (by omega) vB ([]++x) (j:Int) [.int .i64 (j:Int)] (λ_=>True) (λ_=>False) rfl rfl rfl (λ_ hk=>hk.elim) (λ_ _=>trivial) HOB.out HBB.out (aAa HBB.out) (by have:=HOX.out.1;simp only[List.nil_append];omega) ?_;intro vC wC ho hb hg hat;obtain⟨Ad,cd,ed⟩:=Kd.aBr ho;subst ed;rw[List.nil_append,show (x++[(j:Int)]).length=x.length+1 from List.length_append]at ho;have HD:=zK_ (Kd.aBs (Kd.aFg ho) (ok':=λk=>wr.heap.size<=k) λk hk=>hk.2.1);have HBC:=zK_ hb;clear ho hb hg hat)|((with_reducible refine aBe (b:=.append) (xs:=#[.tmp 40,.tmp 47]) rfl ?_);at_builtin;refine Kd.aHg (Kd.slice 3 (Kd.int .i64)) (w0:=w) w.heap.size rfl (.tmp 40) (.tmp 47) 30 26 (.slice none 0 0) 24 rfl Tryz.underlying30 info26 rfl (by decide) (by omega) u5 (Cf.aUr n L i++Cf.aMo x j) (x++[(j:Int)]) [.slice Ad (x.length+1) cd] (λk=>k<w1.heap.size∨w2.heap.size<=k) (λk=>wr.heap.size<=k) rfl rfl (Kd.aNt (Kd.aCn HD.out (aAa HBi.out))) (λk hk=>⟨.inr (by have:=HJ.out;omega),λe=>by have:=Kd.bEe HSi.out k e.symm;omega⟩) (λk hk=>.inr (by have:=HJ.out;have:=HBC.out.size;omega)) (Kd.aE4 (Kd.aD8 (Kd.aEp HSi.out) HBC.out) λk hk=>⟨hk.1,λh=>by have:=hk.2.2.1;omega⟩) (aA1 HBi.out HBC.out) (aAa (aA1 HBi.out HBC.out)) (by have:=HLA.out;omega) ?_;intro vE wE ho hb hg hat;have HOE:=zK_ ho;have HBE:=zK_ hb;have HLE:=zK_ (Kd.aNr (Kd.aD8 (Kd.aEp HLi.out) HBC.out) hg λk hk e=>by have:=HSi.out.choose_spec.1 k e.symm;have:=hk.1;omega);have HZE:=zK_ hg.size;have HRE:=zK_ (Kd.aHh (Kd.aBn HRj.out HBC.out) λk hk hlt=>hg.block k hlt λe=>by have:=HSi.out.choose_spec.1 k e.symm;have:=hk.1;have:=hk.2;omega);clear ho hb hg hat)));go_roundw
      case rel =>
       refine⟨j+1,by go_num,⟨by have:=HJ.out;omega,by have:=HJN.out;omega,by have:=HBC.out.size;have:=HZE.out;have:=HJ.out;omega⟩,HBE,⟨Kd.aE4 HLE.out λk hk=>hk.1⟩,⟨?_⟩,HRE⟩;rw[Cf.aRd x HJ.out.1,<-List.append_assoc];exact HOE.out
      case measure =>
       have:=HJN.out;(simp[intOf]);omega
     have d0:decide ((j:Int)<(n:Int))=false:=zdN (by omega);have d1:decide (j<n)=false:=zdN hj;(have hjn:j=n:=by have:=HJ.out;omega);subst hjn;clear hj;go_wp2;go_roundw
     case rel =>
      refine⟨i+1,by go_num,⟨by have:=HLT.out;omega,HJ.out.2.2⟩,HBi,HLi,⟨?_⟩⟩;rw[Cf.aQq _ HXI.out];exact HSi.out
     case measure =>
      have:=HLT.out;(simp[intOf]);omega
   have gX:=zdY c3;have tA:decide (0<x.length)=true:=zdY (by omega);obtain⟨ji,hji⟩:∃ j_:Int,(wrap64 ((x.length:Int)-1))=j_:=⟨_,rfl⟩;have bTd:(IntKind.i64.wrap ((x.length:Int)-1))=ji:=(aFm _).trans hji;(have hje:ji=(x.length:Int)-1:=by rw[<-hji];unfold wrap64;omega);(have q1:0<=ji:=by omega);(have q2:ji<(x.length:Int):=by omega);obtain⟨ad,ea,hxa⟩:=Kd.aCl (Kd.aAl HRi.out).2.2 ji q1 q2;subst ea
   have hrd:rd x ji+1=(Cf.aJz x:Int):=by
    (have hl:0<x.length:=by omega);(have hg:ji.toNat=x.length-1:=by omega);have hmem:=HOX.out.2.1 _ (List.getElem_mem (l:=x) (n:=x.length-1) (by omega));unfold rd Cf.aJz;rw[if_neg (by omega),hg,zdG,zdH (by omega)];simp only[Option.getD_some];omega
   (have hfw:wrap64 (rd x ji+1)=(Cf.aJz x:Int):=by rw[hrd];unfold wrap64;omega);have bVy:IntKind.i64.wrap (rd x ji+1)=(Cf.aJz x:Int):=(aFm _).trans hfw;clear hje hrd;have q1b:decide (0<=ji)=true:=zdY q1;have q2b:decide (ji<(x.length:Int))=true:=zdY q2;replace q1:=eq_true q1;replace q2:=eq_true q2;go_wp2;(go_loopw [5,9] (λv5 v9 wi=>∃ j:Nat,v9 = .int .i64 (j:Int)/\aA2 (Cf.aJz x<=j/\j<=n/\w2.heap.size<=wi.heap.size)/\aA2 (Below w.heap.size w wi)/\aA2 (Kd.S (Kd.slice 3 (Kd.int .i64)) 26 wi w1.heap.size (λk=>w1.heap.size<=k/\k<w2.heap.size) (.slice (some gL) L.length cL) L)/\aA2 (Kd.S (Kd.slice 3 (Kd.int .i64)) 26 wi w.heap.size (λk=>k<w1.heap.size∨w2.heap.size<=k) v5 (Cf.aUr n L i++Cf.aMo x j))/\aA2 (Kd.R (Kd.int .i64) 3 wi w1.heap.size (λk=>w1.heap.size<=k/\k<w2.heap.size) (.slice (some ad) x.length ci) x)) (λ_ v _=>n-(intOf v).toNat));case atStart=>exact⟨Cf.aJz x,rfl,⟨Nat.le_refl _,HOX.out.2.2,HI.out.2⟩,HBr,HLr,⟨by rw[Cf.aRe x (Nat.le_refl _),List.append_nil];exact HS.out⟩,HRi⟩
   case round =>
    obtain⟨j,rfl,HJ,HBi,HLi,HSi,HRj⟩:=hrel;(have hjb:(j:Int)<=12:=by have:=HJ.out;omega);by_cases hj:j<n
    ·have d0:decide ((j:Int)<(n:Int))=true:=zdY (by omega);have d1:decide (j<n)=true:=zdY hj;have HJN:=zK_ hj;clear hj;have HLA:=zK_ (show (Cf.aUr n L i++Cf.aMo x j).length<=36000000 from by rw[List.length_append];have a1:=Cf.aUq n L i;have a2:=Cf.aPi x j;have a3:=Nat.mul_le_mul hn HLn.out;omega);(go_wp2_with (first|((with_reducible refine aAj (N:=41) rfl ?_);refine Kd.aL2 (w0:=wr) (Kd.int .i64) wr.heap.size 3 ?hg (N:=41) ?hd (xs:=([]:List Int)) (inner:=[]) (ok:=λ_=>True) (okp:=λ_=>True) ?hr ?hp (λ_ hk=>hk) trivial (Below.refl _ _) (Nat.le_refl _) (by simp) ?_;(case hd=>rfl);(case hg=>rfl);(case hr=>exact aD9);(case hp=>exact(aEs.none _ _));intro vA wA ho hb hg_ aF7;have HOA:=zK_ ho;have HBA:=zK_ hb;clear ho hb hg_ aF7)|((with_reducible refine aBe (b:=.append) (xs:=#[.tmp 41,.tmp 42]) rfl ?_);at_builtin;refine Kd.aIk (Kd.int .i64) (w0:=wr) wr.heap.size rfl (.tmp 41) (.tmp 42) 26 3 (.int .i64 0) 8 rfl Tryz.underlying26 info3 rfl (by decide) (by omega) vA ([]:List Int) x _ _ _ (λ_=>True) (λ_=>False) rfl rfl HOA.out (Kd.aC4 (Kd.aAl HRj.out).2.2 HBA.out) (λ_ _ h=>h) (λ_ h=>h.elim) (λ_ _=>trivial) HBA.out (aAa HBA.out) (by have:=HOX.out.1;simp only[List.length_nil];omega) ?_;intro vB wB ho hb hg hat;have HOB:=zK_ ho;have HBB:=zK_ hb;clear ho hb hg hat)|((with_reducible refine aBe (b:=.append) (xs:=#[.tmp 43,.tmp 45]) rfl ?_);at_builtin;refine Kd.aD5 (Kd.int .i64) (w0:=wr) wr.heap.size rfl (.tmp 43) (.tmp 45) 26 3 (.int .i64 0) 8 rfl Tryz.underlying26 info3 rfl (by decide) (by omega) vB ([]++x) (j:Int) [.int .i64 (j:Int)] (λ_=>True) (λ_=>False) rfl rfl rfl (λ_ hk=>hk.elim) (λ_ _=>trivial) HOB.out HBB.out (aAa HBB.out) (by have:=HOX.out.1;simp only[List.nil_append];omega) ?_;intro vC wC ho hb hg hat;obtain⟨Ad,cd,ed⟩:=Kd.aBr ho;subst ed;rw[List.nil_append,show (x++[(j:Int)]).length=x.length+1 from List.length_append]at ho;have HD:=zK_ (Kd.aBs (Kd.aFg ho) (ok':=λk=>wr.heap.size<=k) λk hk=>hk.2.1);have HBC:=zK_ hb;clear ho hb hg hat)|((with_reducible refine aBe (b:=.append) (xs:=#[.tmp 40,.tmp 47]) rfl ?_);at_builtin;refine Kd.aHg (Kd.slice 3 (Kd.int .i64)) (w0:=w) w.heap.size rfl (.tmp 40) (.tmp 47) 30 26 (.slice none 0 0) 24 rfl Tryz.underlying30 info26 rfl (by decide) (by omega) u5 (Cf.aUr n L i++Cf.aMo x j) (x++[(j:Int)]) [.slice Ad (x.length+1) cd] (λk=>k<w1.heap.size∨w2.heap.size<=k) (λk=>wr.heap.size<=k) rfl rfl (Kd.aNt (Kd.aCn HD.out (aAa HBi.out))) (λk hk=>⟨.inr (by have:=HJ.out;omega),λe=>by have:=Kd.bEe HSi.out k e.symm;omega⟩) (λk hk=>.inr (by have:=HJ.out;have:=HBC.out.size;omega)) (Kd.aE4 (Kd.aD8 (Kd.aEp HSi.out) HBC.out) λk hk=>⟨hk.1,λh=>by have:=hk.2.2.1;omega⟩) (aA1 HBi.out HBC.out) (aAa (aA1 HBi.out HBC.out)) (by have:=HLA.out;omega) ?_;intro vE wE ho hb hg hat;have HOE:=zK_ ho;have HBE:=zK_ hb;have HLE:=zK_ (Kd.aNr (Kd.aD8 (Kd.aEp HLi.out) HBC.out) hg λk hk e=>by have:=HSi.out.choose_spec.1 k e.symm;have:=hk.1;omega);have HZE:=zK_ hg.size;have HRE:=zK_ (Kd.aHh (Kd.aBn HRj.out HBC.out) λk hk hlt=>hg.block k hlt λe=>by have:=HSi.out.choose_spec.1 k e.symm;have:=hk.1;have:=hk.2;omega);clear ho hb hg hat)));go_roundw
     case rel =>
      refine⟨j+1,by go_num,⟨by have:=HJ.out;omega,by have:=HJN.out;omega,by have:=HBC.out.size;have:=HZE.out;have:=HJ.out;omega⟩,HBE,⟨Kd.aE4 HLE.out λk hk=>hk.1⟩,⟨?_⟩,HRE⟩;rw[Cf.aRd x HJ.out.1,<-List.append_assoc];exact HOE.out
     case measure =>
      have:=HJN.out;(simp[intOf]);omega
    have d0:decide ((j:Int)<(n:Int))=false:=zdN (by omega);have d1:decide (j<n)=false:=zdN hj;(have hjn:j=n:=by have:=HJ.out;omega);subst hjn;clear hj;go_wp2;go_roundw
    case rel =>
     refine⟨i+1,by go_num,⟨by have:=HLT.out;omega,HJ.out.2.2⟩,HBi,HLi,⟨?_⟩⟩;rw[Cf.aQq _ HXI.out];exact HSi.out
    case measure =>
     have:=HLT.out;(simp[intOf]);omega
theorem aEx.calls (a0 a1:Int) (r:List (List Int)) (w:World) (h:aEx.f a0 a1=some r) :
  Calls Tryz.prog 40 #[.int .i64 a0,.int .i64 a1] w λe w'=>∃ v0_:Value,e = .returned (v0_)/\Kd.S (Kd.slice 3 (Kd.int .i64)) 26 w' w.heap.size (λ_=>True) v0_ r/\Below w.heap.size w w':=by
 unfold aEx.f at h;split at h
 ·rename_i c;obtain⟨h0,h1,h2,h3⟩:=c;obtain⟨n,rfl⟩:=Int.eq_ofNat_of_zero_le h0;obtain⟨m,rfl⟩:=Int.eq_ofNat_of_zero_le h2;obtain rfl:=zdI h;exact aEx.bLq n (by omega) m (by omega) w
 ·cases h
def aBi.l0:Nat->List Int->Int->Int->Int->List (S46)->Int->List (S46)->Option (Bool)
 | 0,_,_,_,_,_,_,_=>none
 | k+1,eZ,nE,jC,aY,aW,iC,fW=>if jC<nE then(if 0<=jC then(if jC<(eZ.length:Int) then(if 0<=(rd eZ jC) then(if(rd eZ jC)<(aW.length:Int) then(if fW.length<8796093022208 then(aBi.l0 k eZ nE (wrap64 (jC+1)) aY aW iC (fW++[(⟨(aA3 aW (rd eZ jC)).f0,(aA3 aW (rd eZ jC)).f1⟩:S46)])) else(none)) else(none)) else(none)) else(none)) else(none)) else((aAm.f k iC fW).bind λeO=>(some ((eO.length:Int)==aY)))
def aBi.f (k:Nat) (aD:Int) (aC:List (S46)) (l1:List Int):Option (Bool):=aBi.l0 k l1 (l1.length:Int) 0 aD aC aD ([]:List (S46))
theorem aBi.aBp:∀ k,(∀ y0 y1 y2 y3 y4 y5 y6,LeO (aBi.l0 k y0 y1 y2 y3 y4 y5 y6) (aBi.l0 (k+1) y0 y1 y2 y3 y4 y5 y6))
 | 0=>λ_ _ _ _ _ _ _ r h=>by simp[aBi.l0]at h
 | k+1=>by
  have ih0:=aBi.aBp k
  ·intro y0 y1 y2 y3 y4 y5 y6
   unfold aBi.l0
   exact bQf
theorem aBi.mono:∀ a0 a1 a2 k,LeO (aBi.f k a0 a1 a2) (aBi.f (k+1) a0 a1 a2):=by
 intro a0 a1 a2 k;have ih0:=aBi.aBp k;unfold aBi.f;exact bQf
def aBi.T5:Bool×List (List Nat×List Nat):=(true,[([],[]),([0],[0]),([],[]),([2],[2]),([],[]),([3,4],[3,4]),([5],[5]),([6],[6]),([1,7],[1,7]),([0,1,2,3,4,5,6,7,8],[]),([9,8,8,0,1,2,3,4,5,6,7,8],[8,9])])
def aBi.B5:List Nat:=[0,1,0,4,0,28,60,124,255,511,1023]
theorem aBi.bOe:aIo .any (opsOf Tryz.f41 5)=aBi.T5:=by kernel_rfl
theorem aBi.bGz:aFn aBi.T5.2 aBi.B5=true:=by kernel_rfl
theorem aBi.calls (k:Nat) (aD:Int) (aH:Option Addr) (aG:Nat) (aC:List (S46)) (A1:Option Addr) (c1:Nat) (l1:List Int) (r:Bool) (w:World) (hr0_1:Kd.C k46 w aH aC.length aC) (hc0_1:aC.length<=aG) (hr1:Kd.C (Kd.int .i64) w A1 l1.length l1) (hc1:l1.length<=c1) (h:aBi.f k aD aC l1=some r) :
  Calls Tryz.prog 41 #[.agg #[.int .i64 aD,.slice aH aC.length aG],.slice A1 l1.length c1] w λe w'=>e = .returned (.bool r)/\Below w.heap.size w w':=by
 have aI5:=Tryz.underlying25;have aV7:=Tryz.underlying46;have b3:=zK_ hr0_1;have bE:=zK_ hc0_1;clear hr0_1 hc0_1;have HR1:=zK_ hr1;have HC1:=zK_ hc1;clear hr1 hc1;have HB:=zK_ (Below.refl w.heap.size w);have H:(aBi.l0 k l1 (l1.length:Int) 0 aD aC aD ([]:List (S46)))=some r:=h;clear h;have H':=zK_ H;clear H;go_enter Tryz.func41,Tryz.ntmps41;(go_wp2_with (first|((with_reducible refine aAj (N:=2) rfl ?_);refine aAf ?hg (N:=2) ?hd (cs:=#[.int .i64 aD,.slice aH aC.length aG]) (t:=25) ?hr ?_;(case hd=>rfl);(case hg=>rfl);(case hr=>exact aD9);intro aE hg w3 hbox hb;have n_:=zA4 (aA1 zz2 hb) hbox (aDl:w.heap.size<=aE) (aDl:w.heap.size<=aE);clear HB;obtain⟨HB,aA,aDd,aD2⟩:=n_;clear hb hbox hg;have sY:=aCe aA;have sX:=aCd aA;have wK:=aA0 aA.out 0;have sW:=aA0 aA.out 1)|((with_reducible refine aAj (N:=5) rfl ?_);refine aAf ?hg (N:=5) ?hd (cs:=#[.int .i64 0,.slice none 0 0]) (t:=25) ?hr ?_;(case hd=>rfl);(case hg=>rfl);(case hr=>exact aD9);intro aU hg w5 hbox hb;have n_:=zA7 (aA4 (g:=aE) (o:=.cells #[.int .i64 aD,.slice aH aC.length aG] 25 (0,0)) zz1 hb) (aA1 zz0 hb) hbox (aFw:w.heap.size<=aU) (aFw:w.heap.size<=aU) (by rw[hg];exact Nat.ne_of_lt (aCt (g:=aE) (o:=.cells #[.int .i64 aD,.slice aH aC.length aG] 25 (0,0)) zz1):aE≠aU) (by rw[hg];exact Nat.ne_of_gt (aCt (g:=aE) (o:=.cells #[.int .i64 aD,.slice aH aC.length aG] 25 (0,0)) zz1):aU≠aE);clear aA HB;obtain⟨aA,HB,aI,aGo,aFv,cC,dE⟩:=n_;clear hb hbox hg;have KP:=dE.out;have JQ:=cC.out;have gO:=aCe aI;have gN:=aCd aI;have gM:=aA0 aI.out 0;have gK:=aA0 aI.out 1)));(go_loopg [13] k (λkq v13 w'=>∃ (aX:Int) (bW:List (S46)) (aC6:Value),v13 = .int .i64 aX/\aA2 (aBi.l0 kq l1 (l1.length:Int) aX aD aC aD bW=some r)/\aA2 (kq<=k)/\aA2 (Kd.R k46 46 w' w.heap.size (λ_=>True) aC6 bW)/\aA2 (w'.heap[aE]? = some (.cells #[.int .i64 aD,(.slice aH aC.length aG)] 25 (0,0)))/\aA2 (w'.heap[aU]? = some (.cells #[.int .i64 aD,aC6] 25 (0,0)))/\aA2 (Below w.heap.size w w')));case atStart=>exact⟨(0),(([]:List (S46))),(.slice none 0 0),zz6,H',⟨Nat.le_refl _⟩,⟨aX8⟩,⟨by(with_reducible repeat(first|refine aA8 ?_ _|refine aA9 ?_|refine aA7 ?_ _));refine aCc ?_ cC.out _;(with_reducible repeat(first|refine aA8 ?_ _|refine aA9 ?_|refine aA7 ?_ _));refine aCc ?_ cC.out _;(with_reducible repeat(first|refine aA8 ?_ _|refine aA9 ?_|refine aA7 ?_ _));exact aA.out⟩,⟨by(with_reducible repeat(first|refine aA8 ?_ _|refine aA9 ?_|refine aA7 ?_ _));refine aD1 (cs:=#[.int .i64 aD,.slice none 0 0]) ?_ 1 _ rfl;(with_reducible repeat(first|refine aA8 ?_ _|refine aA9 ?_|refine aA7 ?_ _));refine aD1 (cs:=#[.int .i64 0,.slice none 0 0]) ?_ 0 _ rfl;(with_reducible repeat(first|refine aA8 ?_ _|refine aA9 ?_|refine aA7 ?_ _));exact aI.out⟩,⟨aMv⟩⟩
 case round =>
  clear H';(try clear c1);(try clear p2);(try clear c4);(try clear c6);(try clear sY);(try clear sX);(try clear gO);(try clear gN);(try clear wK);(try clear sW);(try clear gM);(try clear gK);obtain⟨aX,bW,aC6,rfl,HA,HK1,aJ,aA,aI,HB⟩:=hrel
  cases gk with
  | zero=>exact absurd HA.out (by simp[aBi.l0])
  | succ k1 =>
   have H:=HA.out;clear HA;simp only[aBi.l0]at H;by_cases c8:aX<(l1.length:Int);rotate_left
   ·rw[if_neg c8]at H;have gV:=zdN c8;clear c8;obtain⟨eO,bEl,H⟩:=zO_ H;(try dsimp only at H);have A18:=zK_ bEl;clear bEl;obtain rfl:=zdI H;(try go_wp2);have n_:=zA4 (Kd.aBd aJ.out) (aA9 aA.out) (aA9 aI.out) (aAx HB.out);clear aJ aA aI HB;obtain⟨aJ,aA,aI,HB⟩:=n_;obtain⟨bQa,bPd,EW⟩:=Kd.aBr aJ.out;(first|subst EW|(injection EW with f1_ f2_ f3_;have f4_:=f1_.symm;have f5_:=f3_.symm;clear f1_ f2_ f3_;subst f4_;subst f5_));refine aFp (n:=7) (S:=λw'=>w'.cell? ⟨aU,0,none⟩=some (.int .i64 aD)/\w'.cell? ⟨aU,1,none⟩=some (.slice bQa bW.length bPd)/\w'.cell? ⟨aE,0,none⟩=some (.int .i64 aD)/\w'.cell? ⟨aE,1,none⟩=some (.slice aH aC.length aG)) (ds:=[]) (zM 7 0) (by kernel_rfl) rfl rfl ⟨(aAc aI.out 0).trans rfl,(aAc aI.out 1).trans rfl,(aAc aA.out 0).trans rfl,(aAc aA.out 1).trans rfl⟩ (λhHeld=>?_);generalize wr.drew=w19 at aJ aA aI HB hHeld ⊢;refine aKp (i:=3) (N:=some 31) (v:=?_) (a':=?_) (zM 7 8) rfl rfl (by kernel_rfl) (λ_ _ _ h=>h) (Or.inl ⟨by rfl,?_⟩) ?_ ?_;rotate_left
    ·intro w';exact zzT
    rotate_left
    ·exact zzS
    refine aE6 (i:=0) (N:=some 28) (v:=?_) (a':=?_) (zM 7 9) rfl rfl (by kernel_rfl) (λ_ _ _ h=>h) (Or.inl ⟨by rfl,?_⟩) hHeld ?_ ?_;rotate_left
    ·rintro w' ⟨s0,s1,s2,s3⟩;exact zzT
    rotate_left
    ·exact zzS
    refine aE6 (i:=4) (N:=some 32) (v:=?_) (a':=?_) (zM 7 25) rfl rfl (by kernel_rfl) (λ_ _ _ h=>h) (Or.inl ⟨by rfl,?_⟩) hHeld ?_ ?_;rotate_left
    ·rintro w' ⟨s0,s1,s2,s3⟩;exact zzT
    rotate_left
    ·exact zzS
    refine aHv (i:=1) (N:=some 29) (zM 7 27) rfl rfl (by kernel_rfl) (by decide) (λK hK=>?_);refine aG5 Tryz.func68 (by kernel_rfl) rfl #[.agg #[.int .i64 aD,.slice bQa bW.length bPd]] (by rfl) rfl rfl zz3 ?_;(with_reducible refine(aAm.calls k1 aD _ _ bW eO _ ?side1 ?side2 A18.out).mono ?_);(case side1=>repeat(first|exact(Kd.aAl aJ.out).2.2|(with_reducible refine Kd.aCy ?_ _)|(with_reducible refine Kd.aCx ?_ _)|(with_reducible refine Kd.aDf ?_)));(case side2=>exact(Kd.aAl aJ.out).2.1);rintro e w21 ⟨v109,rfl,ho0,hb⟩;refine⟨_,rfl,?_⟩;have n_:=zA5 (Kd.aBn aIu hb) (Kd.aCn ho0 (aAa aMv)) (aA4 (g:=aE) (o:=.cells #[.int .i64 aD,.slice aH aC.length aG] 25 (0,0)) zz1 hb) (aA4 (g:=aU) (o:=.cells #[.int .i64 aD,.slice bQa bW.length bPd] 25 (0,0)) zz8 hb) (aA1 aMv hb);clear aJ aA aI HB;obtain⟨aJ,sJ,aA,aI,HB⟩:=n_;clear ho0 hb;obtain⟨bV0,bPb,yE⟩:=Kd.aBr sJ.out;(first|subst yE|(injection yE with f1_ f2_ f3_;have f4_:=f1_.symm;have f5_:=f3_.symm;clear f1_ f2_ f3_;subst f4_;subst f5_));refine hK.out _ _ ⟨(aAc aI.out 0).trans rfl,(aAc aI.out 1).trans rfl,(aAc aA.out 0).trans rfl,(aAc aA.out 1).trans rfl⟩ (λhHeld=>?_);clear hK K;refine aEd (a':=?_) ?_ ?_;rotate_left
    ·show Act.put _ (some 29) _=_;exact zzS
    refine aKp (i:=2) (N:=some 30) (v:=?_) (a':=?_) (zM 7 31) rfl rfl (by kernel_rfl) (λ_ _ _ h=>h) (Or.inl ⟨by rfl,?_⟩) ?_ ?_;rotate_left
    ·intro w';exact zzT
    rotate_left
    ·exact zzS
    refine aKp (i:=5) (N:=some 33) (v:=?_) (a':=?_) (zM 7 63) rfl rfl (by kernel_rfl) (λ_ _ _ h=>h) (Or.inl ⟨by rfl,?_⟩) ?_ ?_;rotate_left
    ·intro w';exact zzT
    rotate_left
    ·exact zzS
    refine aKp (i:=6) (N:=some 4) (v:=?_) (a':=?_) (zM 7 127) rfl rfl (by kernel_rfl) (λ_ _ _ h=>h) (Or.inl ⟨by rfl,?_⟩) ?_ ?_;rotate_left
    ·intro w';exact zzT
    rotate_left
    ·exact zzS
    refine aH4 (by kernel_rfl) ?_;(try go_wp2);go_ret;exact⟨zz7,aMv⟩
   rw[if_pos c8]at H;have gV:=zdY c8;clear c8;by_cases c9:0<=aX;rotate_left
   ·rw[if_neg c9]at H;exact absurd H (by simp)
   rw[if_pos c9]at H;have iN:=zdY c9;clear c9;by_cases c10:aX<(l1.length:Int);rotate_left
   ·rw[if_neg c10]at H;exact absurd H (by simp)
   rw[if_pos c10]at H;have fV:=zdY c10;clear c10;by_cases c11:0<=(rd l1 aX);rotate_left
   ·rw[if_neg c11]at H;exact absurd H (by simp)
   rw[if_pos c11]at H;have nJ:=zdY c11;clear c11;by_cases c12:(rd l1 aX)<(aC.length:Int);rotate_left
   ·rw[if_neg c12]at H;exact absurd H (by simp)
   rw[if_pos c12]at H;have nI:=zdY c12;clear c12;by_cases c13:bW.length<8796093022208;rotate_left
   ·rw[if_neg c13]at H;exact absurd H (by simp)
   rw[if_pos c13]at H;have FX:=zK_ c13;clear c13;obtain⟨gY,hy_⟩:∃ y_:List (S46),y_=(bW++[(⟨(aA3 aC (rd l1 aX)).f0,(aA3 aC (rd l1 aX)).f1⟩:S46)]):=⟨_,rfl⟩;(replace H:(aBi.l0 k1 l1 (l1.length:Int) (wrap64 (aX+1)) aD aC aD gY)=some r:=zzY);have lE:=zK_ hy_;clear hy_;have H':=zK_ H;clear H;have aEv:0<=(aX:Int):=zdT zz4;have aEu:aX<(l1.length:Int):=zdT zz4;obtain⟨bX,aH7,aZ⟩:=Kd.aCl HR1.out aX aEv aEu;cases aH7;replace aZ:=(HB.out.cell (World.block_lt_of_cell? w _ aZ)).trans aZ;replace aEv:=eq_true aEv;replace aEu:=eq_true aEu;(try go_wp2);have n_:=zA4 (Kd.aBd aJ.out) (aA9 aA.out) (aA9 aI.out) (aAx HB.out);clear aJ aA aI HB;obtain⟨aJ,aA,aI,HB⟩:=n_;have aJ5:0<=((rd l1 aX):Int):=zdT zz4;have aJ3:(rd l1 aX)<(aC.length:Int):=zdT zz4;obtain⟨iM,aRj,cT,fN⟩:=aDo b3.out (rd l1 aX) aJ5 aJ3;have hw104_1:=fN;have hw104_0:=cT;cases aRj;replace cT:=(HB.out.cell (World.block_lt_of_cell? w _ cT)).trans cT;replace fN:=(HB.out.cell (World.block_lt_of_cell? w _ fN)).trans fN;replace aJ5:=eq_true aJ5;replace aJ3:=eq_true aJ3;refine aFp (n:=11) (S:=λw'=>w'.cell? ⟨aU,0,none⟩=some (.int .i64 aD)/\w'.cell? ⟨aU,1,none⟩=some (aC6)/\w'.cell? ⟨aE,0,none⟩=some (.int .i64 aD)/\w'.cell? ⟨aE,1,none⟩=some (.slice (some iM) aC.length aG)/\w'.cell? (iM.add (((rd l1 aX)).toNat*2))=some (.int .i64 ((aA3 aC (rd l1 aX)).f0))/\w'.cell? ⟨(iM.add (((rd l1 aX)).toNat*2)).block,(iM.add (((rd l1 aX)).toNat*2)).off+1,none⟩=some (.int .i64 ((aA3 aC (rd l1 aX)).f1))) (ds:=[10]) (zM 11 0) (by kernel_rfl) rfl rfl ⟨(aAc aI.out 0).trans rfl,(aAc aI.out 1).trans rfl,(aAc aA.out 0).trans rfl,(aAc aA.out 1).trans rfl,((HB.out.cell (World.block_lt_of_cell? w _ hw104_0)).trans hw104_0),((HB.out.cell (World.block_lt_of_cell? w _ hw104_1)).trans hw104_1)⟩ (λhHeld=>?_);refine aE1 aBi.bOe aBi.bGz (λHT_ HW_=>?_);generalize wr.drew=w14 at aJ aA aI HB cT fN hHeld ⊢;refine zQ 0 17 (zM 11 1) ?_
   refine zQ 2 19 (zM 11 5) ?_
   refine zQ 4 21 (zM 11 21) ?_
   refine aE6 (i:=1) (N:=some 18) (v:=?_) (a':=?_) (zM 11 23) rfl rfl (aC7 HT_.out HW_.out (by kernel_rfl)) (λ_ _ _ h=>h) (Or.inl ⟨by rfl,?_⟩) hHeld ?_ ?_;rotate_left
   ·rintro w' ⟨s0,s1,s2,s3,s4,s5⟩;exact zzT
   rotate_left
   ·exact zzS
   refine aE6 (i:=3) (N:=some 20) (v:=?_) (a':=?_) (zM 11 31) rfl rfl (aC7 HT_.out HW_.out (by kernel_rfl)) (λ_ _ _ h=>h) (Or.inl ⟨by rfl,?_⟩) hHeld ?_ ?_;rotate_left
   ·rintro w' ⟨s0,s1,s2,s3,s4,s5⟩;exact zzT
   rotate_left
   ·exact zzS
   refine zQ 5 22 (zM 11 63) ?_
   refine aE6 (i:=6) (N:=some 23) (v:=?_) (a':=?_) (zM 11 127) rfl rfl (aC7 HT_.out HW_.out (by kernel_rfl)) (λ_ _ _ h=>h) (Or.inl ⟨by rfl,?_⟩) hHeld ?_ ?_;rotate_left
   ·rintro w' ⟨s0,s1,s2,s3,s4,s5⟩;exact zzT
   rotate_left
   ·exact zzS
   refine aHv (i:=7) (N:=some 24) (zM 11 255) rfl rfl (aE3 HT_.out (by kernel_rfl)) (by decide) (λK hK=>?_);refine bDn (w1:=?_) (v:=?_) (by rfl) rfl ?_ ?_;rotate_left 2
   ·go_simp;constructor
    ·rfl
    ·rfl
   refine hK.out _ _ ⟨(aAc (aA7 aI.out _) 0).trans rfl,(aAc (aA7 aI.out _) 1).trans rfl,(aAc (aA7 aA.out _) 0).trans rfl,(aAc (aA7 aA.out _) 1).trans rfl,(World.cell?_alloc_lt _ _ _ (World.block_lt_of_cell? _ _ (((HB.out.cell (World.block_lt_of_cell? w _ hw104_0)).trans hw104_0)))).trans (((HB.out.cell (World.block_lt_of_cell? w _ hw104_0)).trans hw104_0)),(World.cell?_alloc_lt _ _ _ (World.block_lt_of_cell? _ _ (((HB.out.cell (World.block_lt_of_cell? w _ hw104_1)).trans hw104_1)))).trans (((HB.out.cell (World.block_lt_of_cell? w _ hw104_1)).trans hw104_1))⟩ (λhHeld=>?_);clear hK K;refine aEd (a':=?_) ?_ ?_;rotate_left
   ·show Act.put _ (some 24) _=_;exact zzS
   refine aHv (i:=8) (N:=some 25) (zM 11 511) rfl rfl (aE3 HT_.out (by kernel_rfl)) (by decide) (λK hK=>?_);refine Kd.aL3 k46 (w0:=w) w.heap.size (by rfl) (.tmp 18) (.tmp 24) 23 46 (.agg #[(.int .i64 0),(.int .i64 0)]) 16 rfl Tryz.underlying23 aJ9 rfl (by decide) (by omega) aC6 bW (⟨(aA3 aC (rd l1 aX)).f0,(aA3 aC (rd l1 aX)).f1⟩:S46) [.int .i64 ((aA3 aC (rd l1 aX)).f0),.int .i64 ((aA3 aC (rd l1 aX)).f1)] (λ_=>True) (λ_=>False) rfl rfl ?aP (λ_ hk=>hk.elim) ?aF ?aO ?aB ?aS ?aL ?_;(case aP=>exact aG7 _ _ _ (⟨(aA3 aC (rd l1 aX)).f0,(aA3 aC (rd l1 aX)).f1⟩:S46));(case aB=>exact aMv);(case aF=>exact(λ_ _=>trivial));(case aO=>exact aIu);(case aS=>exact(aAa aMv));(case aL=>have:=FX.out;omega);intro bB2 w15 ho hb hg hat;rw[<-lE.out]at ho;have n_:=zA4 (aAt (g:=aE) (o:=.cells #[.int .i64 aD,.slice (some iM) aC.length aG] 25 (0,0)) zz1 hg (Kd.aF1 aJ.out aA.out (by decide))) (aAt (g:=aU) (o:=.cells #[.int .i64 aD,aC6] 25 (0,0)) zz8 hg (Kd.aF1 aJ.out aI.out (by decide))) hb ho;clear aA aI HB aJ;obtain⟨aA,aI,HB,d8⟩:=n_;clear ho hb hg hat;obtain⟨aTw,aS3,yF⟩:=Kd.aBr d8.out;(first|subst yF|(injection yF with f1_ f2_ f3_;have f4_:=f1_.symm;have f5_:=f3_.symm;clear f1_ f2_ f3_;subst f4_;subst f5_));refine hK.out _ _ ⟨(aAc aI.out 0).trans rfl,(aAc aI.out 1).trans rfl,(aAc aA.out 0).trans rfl,(aAc aA.out 1).trans rfl,((HB.out.cell (World.block_lt_of_cell? w _ hw104_0)).trans hw104_0),((HB.out.cell (World.block_lt_of_cell? w _ hw104_1)).trans hw104_1)⟩ (λhHeld=>?_);clear hK K;refine aEd (a':=?_) ?_ ?_;rotate_left
   ·show Act.put _ (some 25) _=_;exact zzS
   refine zQ 9 26 (zM 11 1023) ?_
   refine bJt (i:=10) (N:=none) (zM 11 2047) rfl rfl (aE3 HT_.out (by kernel_rfl)) (by decide) (λK hK=>?_);have bVu:w15.cell? ⟨aU,1,none⟩=some (aC6):=(aAc aI.out 1).trans rfl;have bTo:=aA0 aI.out 1;have hns17_0:=cC.out;have hms17_0:=dE.out;refine aW1 (w1:=?_) (by rfl) rfl ?_ ?_;rotate_left
   ·go_simp;rfl
   refine hK.out _ _ ?_;clear hK K;refine aH4 (aF8 HT_.out (by kernel_rfl)) ?_;(try go_wp2);go_roundg k1;(case measure=>have:=HK1.out;omega);case rel=>exact⟨(wrap64 (aX+1)),(gY),(.slice aTw gY.length aS3),zz6,H',⟨aHl⟩,⟨by(with_reducible repeat(first|apply Kd.aB6|apply Kd.aB5|apply Kd.aBd));exact Kd.aBs (Kd.aE5 (p:=⟨aU,1,none⟩) (Kd.aDk d8.out aI.out (by decide)) (λ_ hk=>hk.2) (.slice aTw gY.length aS3)) (λ_ hk=>trivial)⟩,⟨by(with_reducible repeat(first|refine aA8 ?_ _|refine aA9 ?_|refine aA7 ?_ _));refine aCc ?_ cC.out _;(with_reducible repeat(first|refine aA8 ?_ _|refine aA9 ?_|refine aA7 ?_ _));exact aA.out⟩,⟨by(with_reducible repeat(first|refine aA8 ?_ _|refine aA9 ?_|refine aA7 ?_ _));refine aD1 (cs:=#[.int .i64 aD,aC6]) ?_ 1 _ rfl;(with_reducible repeat(first|refine aA8 ?_ _|refine aA9 ?_|refine aA7 ?_ _));exact aI.out⟩,⟨aMv⟩⟩
mutual
def aB9.j0:Nat->Bool->Int->List (S46)->Option ((List (List Int))×Bool)
 | 0,_,_,_=>none
 | k+1,q5,aY,aW=>if q5=true then(some (([]:List (List Int)),false)) else((aEx.f (aW.length:Int) (wrap64 (aY-1))).bind λcY=>(aB9.l0 k (([]:List (List Int))) cY (cY.length:Int) 0 aY aW))
def aB9.l0:Nat->List (List Int)->List (List Int)->Int->Int->Int->List (S46)->Option ((List (List Int))×Bool)
 | 0,_,_,_,_,_,_=>none
 | k+1,x4,xH,xO,xN,aY,aW=>if xN<xO then(if 0<=xN then(if xN<(xH.length:Int) then((aBi.f k aY aW (aBt xH xN)).bind λeX=>(if eX=true then(if x4.length<5864062014805 then(aB9.l0 k (x4++[aBt xH xN]) xH xO (wrap64 (xN+1)) aY aW) else(none)) else(aB9.l0 k x4 xH xO (wrap64 (xN+1)) aY aW))) else(none)) else(none)) else(some (x4,true))
end
def aB9.f (k:Nat) (aD:Int) (aC:List (S46)):Option ((List (List Int))×Bool):=(aAn.f k aD aC).bind λaQ=>(if aQ=true then((aDc.f k aD aC).bind λa6=>(aB9.j0 k (decide (a6>400)) aD aC)) else(aB9.j0 k true aD aC))
theorem aB9.aBp:∀ k,(∀ y0 y1 y2,LeO (aB9.j0 k y0 y1 y2) (aB9.j0 (k+1) y0 y1 y2))/\(∀ y0 y1 y2 y3 y4 y5,LeO (aB9.l0 k y0 y1 y2 y3 y4 y5) (aB9.l0 (k+1) y0 y1 y2 y3 y4 y5))
 | 0=>⟨λ_ _ _ r h=>by simp[aB9.j0]at h,λ_ _ _ _ _ _ r h=>by simp[aB9.l0]at h⟩
 | k+1=>by
  obtain⟨ih0,ih1⟩:=aB9.aBp k
  refine⟨?_,?_⟩
  ·intro y0 y1 y2
   unfold aB9.j0
   exact zm7
  ·intro y0 y1 y2 y3 y4 y5
   unfold aB9.l0
   exact zm7
theorem aB9.mono:∀ a0 a1 k,LeO (aB9.f k a0 a1) (aB9.f (k+1) a0 a1):=by
 intro a0 a1 k;obtain⟨ih0,ih1⟩:=aB9.aBp k;unfold aB9.f;exact zm7
theorem aB9.calls (k:Nat) (aD:Int) (aH:Option Addr) (aG:Nat) (aC:List (S46)) (r1:List (List Int)) (r2:Bool) (w:World) (hr0_1:Kd.C k46 w aH aC.length aC) (hc0_1:aC.length<=aG) (h:aB9.f k aD aC=some (r1,r2)) :
  Calls Tryz.prog 18 #[.agg #[.int .i64 aD,.slice aH aC.length aG]] w λe w'=>∃ v0_:Value,e = .returned (.tuple #[v0_,.bool r2])/\Kd.N (Kd.slice 3 (Kd.int .i64)) 26 w' w.heap.size (λk_=>(w.heap.size<=k_)) v0_ r1/\Below w.heap.size w w':=by
 have aI5:=Tryz.underlying25;have b3:=zK_ hr0_1;have bE:=zK_ hc0_1;clear hr0_1 hc0_1;have HB:=zK_ (Below.refl w.heap.size w);have H:((aAn.f k aD aC).bind λaQ=>(if aQ=true then((aDc.f k aD aC).bind λa6=>(aB9.j0 k (decide (a6>400)) aD aC)) else(aB9.j0 k true aD aC)))=some (r1,r2):=h;clear h;have HC2:=zK_ H;clear H;go_enter Tryz.func18,Tryz.ntmps18;(go_upto_region 1 with (first|((with_reducible refine aAj (N:=1) rfl ?_);refine aAf ?hg (N:=1) ?hd (cs:=#[.int .i64 aD,.slice aH aC.length aG]) (t:=25) ?hr ?_;(case hd=>rfl);(case hg=>rfl);(case hr=>exact aD9);intro aE hg w3 hbox hb;have n_:=zA4 (aA1 zz2 hb) hbox (aDl:w.heap.size<=aE) (aDl:w.heap.size<=aE);clear HB;obtain⟨HB,aA,aDd,aD2⟩:=n_;clear hb hbox hg)));(try simp only[Act.put,List.setIfInBounds_toArray,List.set_cons_zero,List.set_cons_succ]);go_cut [14] (λv14 wc=>∃ (kq:Nat) (dO:Bool),v14 = .bool dO/\aA2 (aB9.j0 kq dO aD aC=some (r1,r2))/\aA2 (kq<=k)/\aA2 (wc.heap[aE]? = some (.cells #[.int .i64 aD,(.slice aH aC.length aG)] 25 (0,0)))/\aA2 (Below w.heap.size w wc))
 case first =>
  have H:=HC2.out;clear HC2;obtain⟨aQ,A40,H⟩:=zO_ H;(try dsimp only at H);have A4:=zK_ A40;clear A40;by_cases c5:aQ=true;rotate_left
  ·replace c5:=zdB c5;subst c5;rw[if_neg (show ¬ (false=true) by decide)]at H;have H':=zK_ H;clear H;have mG:=aCe aA;have mF:=aCd aA;have mA:=aA0 aA.out 0;have l9:=aA0 aA.out 1;(go_wp2_with (first|((with_reducible refine aA5 (f:=38) rfl ?_);refine aB8 (some 8) rfl rfl Tryz.func38 (by kernel_rfl) rfl #[.agg #[.int .i64 aD,.slice aH aC.length aG]] rfl zz3 ?_;(with_reducible refine(aAn.calls k aD _ _ aC false _ ?side1 ?side2 A4.out).mono ?_);(case side1=>exact zz5);(case side2=>exact bE.out);rintro e w12 ⟨rfl,hb⟩;refine⟨_,rfl,?_⟩;have n_:=zA2 (aA4 (g:=aE) (o:=.cells #[.int .i64 aD,.slice aH aC.length aG] 25 (0,0)) zz1 hb) (aA1 zz0 hb);clear aA HB;obtain⟨aA,HB⟩:=n_;clear hb)));(go_meet);case rel=>exact⟨_,(true),zz6,H',⟨by first|omega|exact Nat.le_refl _⟩,⟨zz1⟩,⟨zz0⟩⟩
  subst c5;rw[if_pos rfl]at H;obtain⟨a6,A60,H⟩:=zO_ H;(try dsimp only at H);have A6:=zK_ A60;clear A60;have H':=zK_ H;clear H;have gO:=aCe aA;have gN:=aCd aA;have gM:=aA0 aA.out 0;have gK:=aA0 aA.out 1;(go_wp2_with (first|((with_reducible refine aA5 (f:=38) rfl ?_);refine aB8 (some 8) rfl rfl Tryz.func38 (by kernel_rfl) rfl #[.agg #[.int .i64 aD,.slice aH aC.length aG]] rfl zz3 ?_;(with_reducible refine(aAn.calls k aD _ _ aC true _ ?side1 ?side2 A4.out).mono ?_);(case side1=>exact zz5);(case side2=>exact bE.out);rintro e w8 ⟨rfl,hb⟩;refine⟨_,rfl,?_⟩;have n_:=zA2 (aA4 (g:=aE) (o:=.cells #[.int .i64 aD,.slice aH aC.length aG] 25 (0,0)) zz1 hb) (aA1 zz0 hb);clear aA HB;obtain⟨aA,HB⟩:=n_;clear hb;have g6:=aCe aA;have g5:=aCd aA;have g4:=aA0 aA.out 0;have g3:=aA0 aA.out 1)|(go_at_call 39;(with_reducible refine(aDc.calls k aD _ _ aC a6 _ ?side1 ?side2 A6.out).mono ?_);(case side1=>exact zz5);(case side2=>exact bE.out);rintro e w10 ⟨rfl,hb⟩;have n_:=zA2 (aA4 (g:=aE) (o:=.cells #[.int .i64 aD,.slice aH aC.length aG] 25 (0,0)) zz1 hb) (aA1 zz0 hb);clear aA HB;obtain⟨aA,HB⟩:=n_;(try clear hb);(try clear hb2);(try clear hk);(try clear hi))));(go_meet);case rel=>exact⟨_,(decide (a6>400)),zz6,H',⟨by first|omega|exact Nat.le_refl _⟩,⟨zz1⟩,⟨zz0⟩⟩
 case rest =>
  clear HC2;(try clear c1);(try clear p2);(try clear c3);(try clear c5);(try clear mG);(try clear mF);(try clear gO);(try clear gN);(try clear g6);(try clear g5);(try clear mA);(try clear l9);(try clear gM);(try clear gK);(try clear g4);(try clear g3);obtain⟨kq,dO,rfl,HA,HJ1,aA,HB⟩:=hcut
  cases kq with
  | zero=>exact absurd HA.out (by simp[aB9.j0])
  | succ kj1 =>
   have H:=HA.out;clear HA;simp only[aB9.j0]at H;by_cases c13:dO=true
   ·subst c13;rw[if_pos rfl]at H;simp only[Option.some.injEq,Prod.mk.injEq]at H;obtain⟨rfl,rfl⟩:=H;go_wp2;(go_ret2);exact⟨_,zz7,bBc,zz0⟩
   replace c13:=zdB c13;subst c13;rw[if_neg (show ¬ (false=true) by decide)]at H;obtain⟨u9,hy_⟩:∃ y_:List (List Int),y_=(([]:List (List Int))):=⟨_,rfl⟩;(replace H:((aEx.f (aC.length:Int) (wrap64 (aD-1))).bind λcY=>(aB9.l0 kj1 u9 cY (cY.length:Int) 0 aD aC))=some (r1,r2):=zzY);have uW:=zK_ hy_;clear hy_;obtain⟨cY,bSn,H⟩:=zO_ H;(try dsimp only at H);have A14:=zK_ bSn;clear bSn;have H':=zK_ H;clear H;(go_wp2_with (first|((with_reducible refine aAj (N:=15) rfl ?_);refine Kd.bPs (Kd.slice 3 (Kd.int .i64)) _ 26 ?hg (N':=15) ?hd (xs:=([]:List (List Int))) (inner:=[]) (ok:=(λk_=>(w.heap.size<=k_)/\k_≠aE)) (okp:=(λk_=>(w.heap.size<=k_)/\k_≠aE)) ?hr ?hp (λ_ hk=>hk) ((show ∀ k_,wc.heap.size<=k_->(λk_=>(w.heap.size<=k_)/\k_≠aE) k_ from λk_ hk=>⟨(Nat.le_trans (aAa zz0) hk),Kd.aFb (g:=aE) (o:=.cells #[.int .i64 aD,.slice aH aC.length aG] 25 (0,0)) zz1 k_ hk⟩) _ (Nat.le_refl _)) (Below.refl _ _) (Nat.le_refl _) (by simp) ?_;(case hd=>rfl);(case hg=>rfl);(case hr=>exact aD9);(case hp=>exact(aEs.none _ _));intro v105 w15 bKb hb hg_ aF7;clear hg_ aF7;(first|rw[<-uW.out]at bKb|(simp only[Int.reduceToNat]at bKb;rw[<-uW.out]at bKb));have n_:=zA3 (Kd.aNs bKb (aAa zz0)) (aA4 (g:=aE) (o:=.cells #[.int .i64 aD,.slice aH aC.length aG] 25 (0,0)) zz1 hb) (aA1 zz0 hb);clear aA HB;obtain⟨oC,aA,HB⟩:=n_;clear hb bKb;have jA:=aCe aA;have i9:=aCd aA;have iZ:=aA0 aA.out 0;have iY:=aA0 aA.out 1)|((with_reducible refine aA5 (f:=40) rfl ?_);refine aB8 (some 22) rfl rfl Tryz.func40 (by kernel_rfl) rfl #[.int .i64 (aC.length:Int),.int .i64 (wrap64 (aD-1))] rfl zz3 ?_;(with_reducible refine(aEx.calls (aC.length:Int) (wrap64 (aD-1)) cY _ A14.out).mono ?_);rintro e w18 ⟨bQn,rfl,ho0,hb⟩;refine⟨_,rfl,?_⟩;have n_:=zA4 (Kd.aPu (by(with_reducible repeat(first|apply Kd.aFa|apply Kd.aF9|apply Kd.aFl));exact oC.out) (Kd.bEj (Kd.S_N ho0)) hb) (Kd.aNs (Kd.aGd (ok':=λk_=>(w.heap.size<=k_)/\some k_≠(v105:Value).ownBlock/\k_≠aE) (Kd.S_N (Kd.aEp ho0)) (λk_ hk_=>⟨(Nat.le_trans (aAa zz0) hk_.2.1),(Kd.fresh' (Kd.bO0 (by(with_reducible repeat(first|apply Kd.aFa|apply Kd.aF9|apply Kd.aFl));exact oC.out)) k_ hk_.2.1),(Kd.aFb (g:=aE) (o:=.cells #[.int .i64 aD,.slice aH aC.length aG] 25 (0,0)) zz1 k_ hk_.2.1)⟩)) (aAa zz0)) (aA4 (g:=aE) (o:=.cells #[.int .i64 aD,.slice aH aC.length aG] 25 (0,0)) zz1 hb) (aA1 zz0 hb);clear oC aA HB;obtain⟨oC,eE,aA,HB⟩:=n_;clear ho0 hb;obtain⟨aWy,aPl,pE⟩:=Kd.aTr eE.out;subst pE)));(go_loopg [4,24] kj1 (λkq v4 v24 w'=>∃ (sM:List (List Int)) (gH:Int),v24 = .int .i64 gH/\aA2 (aB9.l0 kq sM cY (cY.length:Int) gH aD aC=some (r1,r2))/\aA2 (kq<=kj1)/\aA2 (Kd.N (Kd.slice 3 (Kd.int .i64)) 26 w' w.heap.size (λk_=>(w.heap.size<=k_)/\some k_≠((.slice aWy cY.length aPl):Value).ownBlock/\k_≠aE) v4 sM)/\aA2 (Kd.N (Kd.slice 3 (Kd.int .i64)) 26 w' w.heap.size (λk_=>(w.heap.size<=k_)/\some k_≠(v4:Value).ownBlock/\k_≠aE) (.slice aWy cY.length aPl) cY)/\aA2 (w'.heap[aE]? = some (.cells #[.int .i64 aD,(.slice aH aC.length aG)] 25 (0,0)))/\aA2 (Below w.heap.size w w')));case atStart=>exact⟨(u9),(0),zz6,H',⟨Nat.le_refl _⟩,⟨by(with_reducible repeat(first|apply Kd.aFa|apply Kd.aF9|apply Kd.aFl));exact Kd.aGd oC.out (λ_ hk=>⟨hk.1.1,⟨hk.2,hk.1.2⟩⟩)⟩,⟨by(with_reducible repeat(first|apply Kd.aFa|apply Kd.aF9|apply Kd.aFl));exact eE.out⟩,⟨zz1⟩,⟨zz0⟩⟩
   case round =>
    clear H';(try clear c1);(try clear p2);(try clear c3);(try clear c4);(try clear c5);(try clear p6);(try clear c13);(try clear c18);(try clear mG);(try clear mF);(try clear jA);(try clear i9);(try clear gO);(try clear gN);(try clear g6);(try clear g5);(try clear mA);(try clear l9);(try clear iZ);(try clear iY);(try clear gM);(try clear gK);(try clear g4);(try clear g3);(try clear p2);obtain⟨sM,gH,rfl,HA,HK2,qA,jW,aA,HB⟩:=hrel
    cases gk with
    | zero=>exact absurd HA.out (by simp[aB9.l0])
    | succ k2 =>
     have H:=HA.out;clear HA;simp only[aB9.l0]at H;by_cases c20:gH<(cY.length:Int);rotate_left
     ·rw[if_neg c20]at H;have r7:=zdN c20;(try(have pN:=r7;first|rw[lX]at pN|rw[<-lX]at pN));clear c20;simp only[Option.some.injEq,Prod.mk.injEq]at H;obtain⟨rfl,rfl⟩:=H;go_wp2;(go_ret2);exact⟨_,zz7,by(with_reducible repeat(first|apply Kd.aFa|apply Kd.aF9|apply Kd.aFl));exact Kd.aGd qA.out (λ_ hk=>hk.1),zz0⟩
     rw[if_pos c20]at H;have r7:=zdY c20;clear c20;by_cases c21:0<=gH;rotate_left
     ·rw[if_neg c21]at H;exact absurd H (by simp)
     rw[if_pos c21]at H;have pM:=zdY c21;clear c21;by_cases c22:gH<(cY.length:Int);rotate_left
     ·rw[if_neg c22]at H;exact absurd H (by simp)
     rw[if_pos c22]at H;have pL:=zdY c22;clear c22;obtain⟨eX,bEk,H⟩:=zO_ H;(try dsimp only at H);have A23:=zK_ bEk;clear bEk;by_cases c24:eX=true;rotate_left
     ·replace c24:=zdB c24;subst c24;rw[if_neg (show ¬ (false=true) by decide)]at H;have H':=zK_ H;clear H;have aW9:0<=(gH:Int):=zdT zz4;have aW8:gH<(cY.length:Int):=zdT zz4;obtain⟨oJ,A110_0,c110_0,bLd,lV,lX,hi110_0⟩:=aH8 (Kd.aHk jW.out).2.2 gH aW9 aW8;cases bLd;obtain⟨bPf,aZe,aZh,aRc⟩:=Kd.bDb jW.out [] gH aW9 (by first|exact aW8|exact zdT zz4|(have e_:=(Kd.aHk jW.out).1;omega));obtain⟨ua110_0,uc110_0,rfl,ul110_0,ge110_0⟩:=Kd.aGu aZh;have hv110_0:=aRc 0 _ rfl;rw[Nat.add_zero,show ((Kd.slice 3 (Kd.int .i64))).sz=1 from rfl,Nat.mul_one]at hv110_0;replace hv110_0:=zdI (hv110_0.symm.trans lV);injection hv110_0 with aZb bG4 aZa;rw[aZb]at ge110_0;rw[aZa]at ul110_0;have HL110_0:=zK_ (show Kd.V (Kd.int .i64) 3 _ w.heap.size _ _ (aBt cY gH) from Kd.bNy ul110_0 ge110_0);clear aZb bG4 aZa ge110_0 ul110_0;clear aRc aZe;have HR110_0:=zK_ hi110_0;have HC110_0:=zK_ lX;clear hi110_0 lX;replace aW9:=eq_true aW9;replace aW8:=eq_true aW8;have nA:=aCe aA;have m9:=aCd aA;have m4:=aA0 aA.out 0;have m3:=aA0 aA.out 1;(go_wp2_with (first|((with_reducible refine aA5 (f:=41) rfl ?_);refine aB8 (some 30) rfl rfl Tryz.func41 (by kernel_rfl) rfl #[.agg #[.int .i64 aD,.slice aH aC.length aG],.slice A110_0 (aBt cY gH).length c110_0] rfl zz3 ?_;(with_reducible refine(aBi.calls k2 aD _ _ aC _ _ (aBt cY gH) false _ ?side1 ?side2 ?side3 ?side4 A23.out).mono ?_);(case side1=>exact zz5);(case side2=>exact bE.out);(case side3=>repeat(first|exact bBg|(with_reducible refine Kd.aCy ?_ _)|(with_reducible refine Kd.aCx ?_ _)|(with_reducible refine Kd.aDf ?_)));(case side4=>exact HC110_0.out);rintro e w30 ⟨rfl,hb⟩;refine⟨_,rfl,?_⟩;have n_:=zA6 (Kd.aLr (by(with_reducible repeat(first|apply Kd.aFa|apply Kd.aF9|apply Kd.aFl));exact qA.out) hb) (Kd.aLr (by(with_reducible repeat(first|apply Kd.aFa|apply Kd.aF9|apply Kd.aFl));exact jW.out) hb) (Kd.aNp (by(with_reducible repeat(first|apply Kd.aKa|apply Kd.aK9|apply Kd.aM7));exact HL110_0.out) hb) (aA4 (g:=aE) (o:=.cells #[.int .i64 aD,.slice aH aC.length aG] 25 (0,0)) zz1 hb) (Kd.aC4 bBg hb) (aA1 zz0 hb);clear qA jW HL110_0 aA HR110_0 HB;obtain⟨qA,jW,HL110_0,aA,HR110_0,HB⟩:=n_;clear hb)));go_roundg k2;(case measure=>have:=HJ1.out;have:=HK2.out;omega);case rel=>exact⟨(sM),(wrap64 (gH+1)),zz6,H',⟨by have:=HJ1.out;have:=HK2.out;omega⟩,⟨by(with_reducible repeat(first|apply Kd.aFa|apply Kd.aF9|apply Kd.aFl));exact qA.out⟩,⟨by(with_reducible repeat(first|apply Kd.aFa|apply Kd.aF9|apply Kd.aFl));exact jW.out⟩,⟨zz1⟩,⟨zz0⟩⟩
     subst c24;rw[if_pos rfl]at H;by_cases c25:sM.length<5864062014805;rotate_left
     ·rw[if_neg c25]at H;exact absurd H (by simp)
     rw[if_pos c25]at H;have sG:=zK_ c25;clear c25;obtain⟨q7,hy_⟩:∃ y_:List (List Int),y_=(sM++[aBt cY gH]):=⟨_,rfl⟩;(replace H:(aB9.l0 k2 q7 cY (cY.length:Int) (wrap64 (gH+1)) aD aC)=some (r1,r2):=zzY);have sE:=zK_ hy_;clear hy_;have H':=zK_ H;clear H;have aW9:0<=(gH:Int):=zdT zz4;have aW8:gH<(cY.length:Int):=zdT zz4;obtain⟨oJ,A110_0,c110_0,bLd,lV,lX,hi110_0⟩:=aH8 (Kd.aHk jW.out).2.2 gH aW9 aW8;cases bLd;obtain⟨bPf,aZe,aZh,aRc⟩:=Kd.bDb jW.out [] gH aW9 (by first|exact aW8|exact zdT zz4|(have e_:=(Kd.aHk jW.out).1;omega));obtain⟨ua110_0,uc110_0,rfl,ul110_0,ge110_0⟩:=Kd.aGu aZh;have hv110_0:=aRc 0 _ rfl;rw[Nat.add_zero,show ((Kd.slice 3 (Kd.int .i64))).sz=1 from rfl,Nat.mul_one]at hv110_0;replace hv110_0:=zdI (hv110_0.symm.trans lV);injection hv110_0 with aZb bG4 aZa;rw[aZb]at ge110_0;rw[aZa]at ul110_0;have HL110_0:=zK_ (show Kd.V (Kd.int .i64) 3 _ w.heap.size _ _ (aBt cY gH) from Kd.bNy ul110_0 ge110_0);clear aZb bG4 aZa ge110_0 ul110_0;clear aRc aZe;have HR110_0:=zK_ hi110_0;have HC110_0:=zK_ lX;clear hi110_0 lX;replace aW9:=eq_true aW9;replace aW8:=eq_true aW8;have n5:=aCe aA;have n4:=aCd aA;have nW:=aA0 aA.out 0;have nV:=aA0 aA.out 1;(go_wp2_with (first|((with_reducible refine aA5 (f:=41) rfl ?_);refine aB8 (some 30) rfl rfl Tryz.func41 (by kernel_rfl) rfl #[.agg #[.int .i64 aD,.slice aH aC.length aG],.slice A110_0 (aBt cY gH).length c110_0] rfl zz3 ?_;(with_reducible refine(aBi.calls k2 aD _ _ aC _ _ (aBt cY gH) true _ ?side1 ?side2 ?side3 ?side4 A23.out).mono ?_);(case side1=>exact zz5);(case side2=>exact bE.out);(case side3=>repeat(first|exact bBg|(with_reducible refine Kd.aCy ?_ _)|(with_reducible refine Kd.aCx ?_ _)|(with_reducible refine Kd.aDf ?_)));(case side4=>exact HC110_0.out);rintro e w27 ⟨rfl,hb⟩;refine⟨_,rfl,?_⟩;have n_:=zA6 (Kd.aLr (by(with_reducible repeat(first|apply Kd.aFa|apply Kd.aF9|apply Kd.aFl));exact qA.out) hb) (Kd.aLr (by(with_reducible repeat(first|apply Kd.aFa|apply Kd.aF9|apply Kd.aFl));exact jW.out) hb) (Kd.aNp (by(with_reducible repeat(first|apply Kd.aKa|apply Kd.aK9|apply Kd.aM7));exact HL110_0.out) hb) (aA4 (g:=aE) (o:=.cells #[.int .i64 aD,.slice aH aC.length aG] 25 (0,0)) zz1 hb) (Kd.aC4 bBg hb) (aA1 zz0 hb);clear qA jW HL110_0 aA HR110_0 HB;obtain⟨qA,jW,HL110_0,aA,HR110_0,HB⟩:=n_;clear hb)|((with_reducible refine aBe (b:=.append) (xs:=#[.tmp 31,.tmp 33]) rfl ?_);at_builtin;refine Kd.bDc (Kd.slice 3 (Kd.int .i64)) (w0:=w) w.heap.size rfl (.tmp 31) (.tmp 33) 30 26 (.slice none 0 0) 24 rfl Tryz.underlying30 info26 rfl (by decide) (by omega) u4 sM (aBt cY gH) [.slice A110_0 (aBt cY gH).length c110_0] (λk_=>(w.heap.size<=k_)/\some k_≠(.slice (some oJ) cY.length aPl:Value).ownBlock/\k_≠aE) (λk_=>((λk_=>(w.heap.size<=k_)/\some k_≠(.slice (some oJ) cY.length aPl:Value).ownBlock/\k_≠aE)) k_/\some k_≠(u4:Value).ownBlock) rfl rfl ?aP (λ_ hk=>hk) ?aF ?aO ?aB ?aS ?aL ?_;(case aP=>exact(Kd.aTu (Kd.bD5 (Kd.aK0 (ok':=(λk_=>((λk_=>(w.heap.size<=k_)/\some k_≠(.slice (some oJ) cY.length aPl:Value).ownBlock/\k_≠aE)) k_/\some k_≠(u4:Value).ownBlock)) (HL110_0.out) (λk_ hk=>⟨⟨hk.1.1,⟨hk.2,hk.1.2.2⟩⟩,hk.1.2.1⟩))).2.1 (Kd.V_F (Kd.aK0 (ok':=(λk_=>((λk_=>(w.heap.size<=k_)/\some k_≠(.slice (some oJ) cY.length aPl:Value).ownBlock/\k_≠aE)) k_/\some k_≠(u4:Value).ownBlock)) (HL110_0.out) (λk_ hk=>⟨⟨hk.1.1,⟨hk.2,hk.1.2.2⟩⟩,hk.1.2.1⟩)))));(case aB=>exact zz0);(case aF=>exact(λk_ hk=>⟨(Nat.le_trans (aAa zz0) hk),Kd.fresh' (Kd.bO0 (by(with_reducible repeat(first|apply Kd.aFa|apply Kd.aF9|apply Kd.aFl));exact jW.out)) k_ hk,Kd.aFb (g:=aE) (o:=.cells #[.int .i64 aD,.slice aH aC.length aG] 25 (0,0)) zz1 k_ hk⟩));(case aO=>exact(by(with_reducible repeat(first|apply Kd.aFa|apply Kd.aF9|apply Kd.aFl));exact qA.out));(case aS=>exact(aAa zz0));(case aL=>have:=sG.out;omega);intro bVe w28 ho hb hg hat;rw[<-sE.out]at ho;have n_:=zA5 (Kd.bDd (ok:=(λk_=>(w.heap.size<=k_)/\k_≠aE)) (by(with_reducible repeat(first|apply Kd.aFa|apply Kd.aF9|apply Kd.aFl));exact Kd.aGd jW.out (λ_ hk=>⟨⟨hk.1,hk.2.2⟩,hk.2.1⟩)) hg hat) (aAt (g:=aE) (o:=.cells #[.int .i64 aD,.slice aH aC.length aG] 25 (0,0)) zz1 hg (Kd.bRi qA.out aA.out (by decide))) (Kd.bD7 (ok:=(λk_=>(w.heap.size<=k_)/\some k_≠(.slice (some oJ) cY.length aPl:Value).ownBlock/\k_≠aE)) (by(with_reducible repeat(first|apply Kd.aKa|apply Kd.aK9|apply Kd.aM7));exact Kd.aK0 HL110_0.out (λ_ hk=>⟨⟨hk.1.1,⟨hk.2,hk.1.2.2⟩⟩,hk.1.2.1⟩)) hg hat) hb ho;clear jW aA HL110_0 HB qA;obtain⟨jW,aA,HL110_0,HB,F1⟩:=n_;clear ho hb hg hat)));go_roundg k2;(case measure=>have:=HJ1.out;have:=HK2.out;omega);case rel=>exact⟨(q7),(wrap64 (gH+1)),zz6,H',⟨by have:=HJ1.out;have:=HK2.out;omega⟩,⟨by(with_reducible repeat(first|apply Kd.aFa|apply Kd.aF9|apply Kd.aFl));exact F1.out⟩,⟨by(with_reducible repeat(first|apply Kd.aFa|apply Kd.aF9|apply Kd.aFl));exact Kd.aGd jW.out (λ_ hk=>⟨hk.1.1,⟨hk.2,hk.1.2⟩⟩)⟩,⟨zz1⟩,⟨zz0⟩⟩
def aCi.f (k:Nat) (l0:List Int):Option (Int×(List (S46))×List Int):=(aBu.f k l0).bind λgA=>((aDv.f k gA.1 gA.2.1 gA.2.2).bind λiS=>((aB9.f k iS.1 iS.2.1).bind λkK=>(if kK.2=true then((aBw.f gA.1 iS.2.2.1 iS.2.2.2 (kK.1.length:Int)).bind λpQ=>(if 0<=pQ.1 then(if pQ.1<(kK.1.length:Int) then(some (iS.1,iS.2.1,aBt kK.1 pQ.1)) else(none)) else(none))) else((some (([(⟨0,1⟩:S46),(⟨0,2⟩:S46),(⟨1,2⟩:S46)]:List (S46)):List (S46))).bind λkL=>((aB9.f k 3 kL).bind λjD=>((aBw.f gA.1 iS.2.2.1 iS.2.2.2 (jD.1.length:Int)).bind λkX=>(if 0<=kX.1 then(if kX.1<(jD.1.length:Int) then(some (3,kL,aBt jD.1 kX.1)) else(none)) else(none))))))))
theorem aCi.mono:∀ a0 k,LeO (aCi.f k a0) (aCi.f (k+1) a0):=by
 intro a0 k;unfold aCi.f;repeat' first|(with_reducible apply aB9.mono)|(with_reducible apply aBu.mono)|(with_reducible apply aDv.mono)|(with_reducible exact LeO.refl _)|(with_reducible exact LeO.none _)|(with_reducible refine LeO.ite ?_ ?_)|(with_reducible refine LeO.bind ?_ (λ_=>?_))|apply aB9.mono|apply aBu.mono|apply aDv.mono|exact LeO.none _|refine LeO.ite ?_ ?_|refine LeO.bind ?_ (λ_=>?_)
def aCi.T7:Bool×List (List Nat×List Nat):=(true,[([],[]),([],[]),([],[]),([],[]),([3],[3]),([2,4],[2,4]),([1,5],[1,5]),([6],[6]),([0,5,0],[0]),([7,8,0,1,2,3,4,5,6,7,8],[7])])
def aCi.B7:List Nat:=[0,0,0,0,8,28,62,126,61,511]
theorem aCi.bQo:aIo .any (opsOf Tryz.f4 7)=aCi.T7:=by kernel_rfl
theorem aCi.bLv:aFn aCi.T7.2 aCi.B7=true:=by kernel_rfl
theorem aCi.calls (k:Nat) (A0:Option Addr) (c0:Nat) (l0:List Int) (r1:Int) (r2:List (S46)) (r3:List Int) (w:World) (hr0:Kd.C (Kd.int .u8) w A0 l0.length l0) (hc0:l0.length<=c0) (h:aCi.f k l0=some (r1,r2,r3)) :
  Calls Tryz.prog 4 #[.slice A0 l0.length c0] w λe w'=>∃ v1_ v2_:Value,e = .returned (.tuple #[.agg #[.int .i64 r1,v1_],v2_])/\Kd.R k46 46 w' w.heap.size (λk_=>(w.heap.size<=k_)) v1_ r2/\Kd.V (Kd.int .i64) 3 w' w.heap.size (λk_=>(w.heap.size<=k_)/\some k_≠(v1_:Value).ownBlock) v2_ r3/\Below w.heap.size w w':=by
 have aI5:=Tryz.underlying25;have aV7:=Tryz.underlying46;have HR0:=zK_ hr0;have HC0:=zK_ hc0;clear hr0 hc0;have HB:=zK_ (Below.refl w.heap.size w);have H:((aBu.f k l0).bind λgA=>((aDv.f k gA.1 gA.2.1 gA.2.2).bind λiS=>((aB9.f k iS.1 iS.2.1).bind λkK=>(if kK.2=true then((aBw.f gA.1 iS.2.2.1 iS.2.2.2 (kK.1.length:Int)).bind λpQ=>(if 0<=pQ.1 then(if pQ.1<(kK.1.length:Int) then(some (iS.1,iS.2.1,aBt kK.1 pQ.1)) else(none)) else(none))) else((some (([(⟨0,1⟩:S46),(⟨0,2⟩:S46),(⟨1,2⟩:S46)]:List (S46)):List (S46))).bind λkL=>((aB9.f k 3 kL).bind λjD=>((aBw.f gA.1 iS.2.2.1 iS.2.2.2 (jD.1.length:Int)).bind λkX=>(if 0<=kX.1 then(if kX.1<(jD.1.length:Int) then(some (3,kL,aBt jD.1 kX.1)) else(none)) else(none)))))))))=some (r1,r2,r3):=h;clear h;replace H:=zO_ H;obtain⟨⟨aQ,a6,gJ⟩,A20,H⟩:=H;dsimp only at H;have A2:=zK_ A20;clear A20;replace H:=zO_ H;obtain⟨⟨b6,cY,cM,eX⟩,A30,H⟩:=H;dsimp only at H;have A3:=zK_ A30;clear A30;replace H:=zO_ H;obtain⟨⟨lT,rB⟩,A40,H⟩:=H;dsimp only at H;have A4:=zK_ A40;clear A40;by_cases c5:rB=true
 ·subst c5;rw[if_pos rfl]at H;replace H:=zO_ H;obtain⟨⟨kI,jK,xP⟩,A60,H⟩:=H;dsimp only at H;have A6:=zK_ A60;clear A60;by_cases c7:0<=kI;rotate_left
  ·rw[if_neg c7]at H;exact absurd H (by simp)
  rw[if_pos c7]at H;have gT:=zdY c7;clear c7;by_cases c8:kI<(lT.length:Int);rotate_left
  ·rw[if_neg c8]at H;exact absurd H (by simp)
  rw[if_pos c8]at H;have gV:=zdY c8;clear c8;simp only[Option.some.injEq,Prod.mk.injEq]at H;obtain⟨rfl,rfl,rfl⟩:=H;go_enter Tryz.func4,Tryz.ntmps4;(try go_wp2_with (first|((with_reducible refine aAj (N:=2) rfl ?_);refine aAf ?hg (N:=2) ?hd (cs:=#[.int .i64 0,.slice none 0 0]) (t:=25) ?hr ?_;(case hd=>rfl);(case hg=>rfl);(case hr=>exact aD9);intro aE hg w9 hbox hb;have n_:=zA4 (aA1 zz2 hb) hbox (aDl:w.heap.size<=aE) (aDl:w.heap.size<=aE);clear HB;obtain⟨HB,aA,aDd,aD2⟩:=n_;clear hb hbox hg)|((with_reducible refine aA5 (f:=16) rfl ?_);refine aB8 (some 9) rfl rfl Tryz.func16 (by kernel_rfl) rfl #[.slice A0 l0.length c0] rfl zz3 ?_;(with_reducible refine(aBu.calls k _ _ l0 aQ a6 gJ w _ ?side1 ?side2 ?side3 A2.out).mono ?_);(case side1=>exact zz0);(case side2=>exact HR0.out);(case side3=>exact HC0.out);rintro e w10 ⟨aJx,rfl,hi,hb,hb2⟩;refine⟨_,rfl,?_⟩;have n_:=zA5 (aA4 (g:=aE) (o:=.cells #[.int .i64 0,.slice none 0 0] 25 (0,0)) zz1 hb2) hb hi (aAi.aUu hi (aA4 (g:=aE) (o:=.cells #[.int .i64 0,.slice none 0 0] 25 (0,0)) zz1 hb2) (by decide)) (Ne.symm (aAi.aUu hi (aA4 (g:=aE) (o:=.cells #[.int .i64 0,.slice none 0 0] 25 (0,0)) zz1 hb2) (by decide)));clear aA HB;obtain⟨aA,HB,aEq,cO,fG⟩:=n_;clear hi hb hb2)|((with_reducible refine aA5 (f:=17) rfl ?_);refine aB8 (some 11) rfl rfl Tryz.func17 (by kernel_rfl) rfl #[.pointer (some ⟨aJx,0,none⟩)] rfl zz3 ?_;(with_reducible refine(aDv.calls k aJx aQ a6 gJ b6 cY cM eX w _ ?side1 ?side2 A3.out).mono ?_);(case side1=>exact zF1);(case side2=>repeat(first|(with_reducible first|exact HB.out|apply aB7|apply aAs|apply aAx|refine aAg ?_ (aAi.ge aEq.out)|refine aAg ?_ aD2.out)|exact HB.out));rintro e w11 ⟨bQn,rfl,ho0,hi,hb,hk⟩;refine⟨_,rfl,?_⟩;have n_:=zA4 (aAw.blk hk (g':=aE) (o:=.cells #[.int .i64 0,.slice none 0 0] 25 (0,0)) zz1 fG.out (by simp)) (Kd.aCn (Kd.bA9 (M:=λk_=>(w.heap.size<=k_)) ho0 (aAa bAw) (λk_ h_=>h_)) (aAa bAw)) hb hi;clear aA HB aEq;obtain⟨aA,eE,HB,aEq⟩:=n_;clear ho0 hi hb hk)|((with_reducible refine aAj (N:=5) rfl ?_);refine aAf ?hg (N:=5) ?hd (cs:=#[.int .i64 0,.slice none 0 0]) (t:=25) ?hr ?_;(case hd=>rfl);(case hg=>rfl);(case hr=>exact aD9);intro dI hg w12 hbox hb;have n_:=bOc (Kd.aBn aVp hb) (aA4 (g:=aE) (o:=.cells #[.int .i64 0,.slice none 0 0] 25 (0,0)) zz1 hb) (aAi.below ((zF1)) hb) (aA1 bAw hb) hbox (by rw[hg];exact(aAa bAw):w.heap.size<=dI) (by rw[hg];exact(aAa bAw):w.heap.size<=dI) (aX7:aE≠dI) (aX6:dI≠aE) (by rw[hg];exact Nat.ne_of_lt (aAi.lt (show aAi w _ aJx aQ cM eX from(zF1))):aJx≠dI) (by rw[hg];exact Nat.ne_of_gt (aAi.lt (show aAi w _ aJx aQ cM eX from(zF1))):dI≠aJx);clear eE aA aEq HB;obtain⟨eE,aA,aEq,HB,dG,bQ1,aWw,iK,eG,fI,lP⟩:=n_;clear hb hbox hg;have rH:=eG.out;have rF:=iK.out;have tP:=lP.out;have tO:=fI.out;have fR:=aCe dG;have fQ:=aCd dG;have fP:=aA0 dG.out 0;have fO:=aA0 dG.out 1;obtain⟨aTw,aS3,yF⟩:=Kd.aBr eE.out;subst yF)|((with_reducible refine aA5 (f:=18) rfl ?_);refine aB8 (some 14) rfl rfl Tryz.func18 (by kernel_rfl) rfl #[.agg #[.int .i64 b6,.slice aTw cY.length aS3]] rfl zz3 ?_;(with_reducible refine(aB9.calls k b6 _ _ cY lT true _ ?side1 ?side2 A4.out).mono ?_);(case side1=>refine(Kd.aAl (e:=46) (base:=w.heap.size) (ok:=λk_=>((w.heap.size<=k_)/\True)) (n:=cY.length) (c:=aS3) ?_).2.2;exact bO6);(case side2=>exact(Kd.aAl eE.out).2.1);rintro e w17 ⟨bI1,rfl,ho0,hb⟩;refine⟨_,rfl,?_⟩;have n_:=zA6 (Kd.aBn bO6 hb) (Kd.aNs (Kd.aGd (ok':=λk_=>(w.heap.size<=k_)/\some k_≠(.slice aTw cY.length aS3:Value).ownBlock/\k_≠aE/\k_≠dI/\k_≠aJx) ho0 (λk_ hk_=>⟨(Nat.le_trans (aAa aX1) hk_),(Kd.fresh' (Kd.aIv bO6) k_ hk_),(Kd.aFb (g:=aE) (o:=.cells #[.int .i64 0,.slice none 0 0] 25 (0,0)) bHy k_ hk_),(Kd.aFb (g:=dI) (o:=.cells #[.int .i64 b6,.slice aTw cY.length aS3] 25 (0,0)) bN4 k_ hk_),(aAi.fresh bN0 k_ hk_)⟩)) (aAa aX1)) (aA4 (g:=aE) (o:=.cells #[.int .i64 0,.slice none 0 0] 25 (0,0)) bHy hb) (aAi.below (show aAi w ((w12.setCell ⟨dI,0,none⟩ (.int .i64 b6)).setCell ⟨dI,1,none⟩ (.slice aTw cY.length aS3)) aJx aQ cM eX from(zF1)) hb) (aA4 (g:=dI) (o:=.cells #[.int .i64 b6,.slice aTw cY.length aS3] 25 (0,0)) bN4 hb) (aA1 aX1 hb);clear eE aA aEq dG HB;obtain⟨eE,dF,aA,aEq,dG,HB⟩:=n_;clear ho0 hb)));have n_:=zA6 (Kd.aBd eE.out) (Kd.aFl dF.out) (aA9 aA.out) (aA9 dG.out) (aAi.drew aEq.out) (aAx HB.out);clear eE dF aA dG aEq HB;obtain⟨eE,dF,aA,dG,aEq,HB⟩:=n_;obtain⟨aWy,aPl,pE⟩:=Kd.aTr dF.out;(first|subst pE|(injection pE with f1_ f2_ f3_;have f4_:=f1_.symm;have f5_:=f3_.symm;clear f1_ f2_ f3_;subst f4_;subst f5_));have bNm:0<=(kI:Int):=zdT zz4;have bNf:kI<(lT.length:Int):=zdT zz4;obtain⟨FE,A120_0,c120_0,e120,qU,oR,hi120_0⟩:=aH8 (Kd.aHk dF.out).2.2 kI bNm bNf;cases e120;obtain⟨bUh,bKm,bKs,bE5⟩:=Kd.bDb dF.out [] kI bNm (by first|exact bNf|exact zdT zz4|(have e_:=(Kd.aHk dF.out).1;omega));obtain⟨ua120_0,uc120_0,rfl,ul120_0,ge120_0⟩:=Kd.aGu bKs;have hv120_0:=bE5 0 _ rfl;rw[Nat.add_zero,show ((Kd.slice 3 (Kd.int .i64))).sz=1 from rfl,Nat.mul_one]at hv120_0;replace hv120_0:=zdI (hv120_0.symm.trans qU);injection hv120_0 with aZb bG4 aZa;rw[aZb]at ge120_0;rw[aZa]at ul120_0;have HL120_0:=zK_ (show Kd.V (Kd.int .i64) 3 _ w.heap.size _ _ (aBt lT kI) from Kd.bNy ul120_0 ge120_0);clear aZb bG4 aZa ge120_0 ul120_0;clear bE5 bKm;have HR120_0:=zK_ hi120_0;have HC120_0:=zK_ oR;clear hi120_0 oR;replace bNm:=eq_true bNm;replace bNf:=eq_true bNf;refine aFp (n:=10) (S:=λw'=>w'.cell? ⟨dI,0,none⟩=some (.int .i64 b6)/\w'.cell? ⟨dI,1,none⟩=some (.slice aTw cY.length aS3)/\w'.cell? (FE.add (kI).toNat)=some (.slice A120_0 (aBt lT kI).length c120_0)) (ds:=[]) (zM 10 0) (by kernel_rfl) rfl rfl ⟨(aAc dG.out 0).trans rfl,(aAc dG.out 1).trans rfl,qU⟩ (λhHeld=>?_);refine aE1 aCi.bQo aCi.bLv (λHT_ HW_=>?_);generalize w17.drew=w18 at eE dF aA dG aEq HB HL120_0 HR120_0 qU hHeld ⊢;refine zQ 1 30 (zM 10 2) ?_
  refine zQ 2 31 (zM 10 6) ?_
  refine zQ 3 32 (zM 10 14) ?_
  refine zQ 4 33 (zM 10 30) ?_
  refine aE6 (i:=0) (N:=some 29) (v:=?_) (a':=?_) (zM 10 31) rfl rfl (aC7 HT_.out HW_.out (by kernel_rfl)) (λ_ _ _ h=>h) (Or.inl ⟨by rfl,?_⟩) hHeld ?_ ?_;rotate_left
  ·rintro w' ⟨s0,s1,s2⟩;exact zzT
  rotate_left
  ·exact zzS
  refine aHv (i:=5) (N:=some 34) (zM 10 63) rfl rfl (aE3 HT_.out (by kernel_rfl)) (by decide) (λK hK=>?_);refine aG5 Tryz.func19 (by kernel_rfl) rfl #[.pointer (some ⟨aJx,0,none⟩),.int .i64 (lT.length:Int)] (by rfl) rfl rfl zz3 ?_;(with_reducible refine(aBw.calls aJx aQ cM eX (lT.length:Int) kI jK xP w _ ?side1 ?side2 A6.out).mono ?_);(case side1=>exact zF1);(case side2=>repeat(first|(with_reducible first|exact HB.out|apply aB7|apply aAs|apply aAx|refine aAg ?_ (aAi.ge aEq.out)|refine aAg ?_ aD2.out|refine aAg ?_ aWw.out)|exact HB.out));rintro e w20 ⟨rfl,hi,hb,hk⟩;have bDe:=aR4 hk (hHeld.2.2) (by first|(rw[add_block];exact Kd.aFj (aAi.aLe aEq.out dF.out (by decide)))|(show (Addr.add _ _).block≠_;rw[add_block];exact Kd.aFj (aAi.aLe aEq.out dF.out (by decide)))|exact Kd.aFj (aAi.aLe aEq.out dF.out (by decide)));refine⟨_,rfl,?_⟩;have n0_:=zK_ (aAw.blk hk (g':=aE) (o:=.cells #[.int .i64 0,.slice none 0 0] 25 (0,0)) zz1 fG.out (by simp));have n1_:=zK_ (Kd.aBs (Kd.aGc (aAi.apart (show aAi w _ aJx aQ cM eX from(zF1)) aVp (by decide)) hk (λ_ h=>h.2)) (λ_ h=>h.1));have n2_:=zK_ (aAw.blk hk (g':=dI) (o:=.cells #[.int .i64 b6,.slice aTw cY.length aS3] 25 (0,0)) (by(with_reducible repeat(first|refine aA8 ?_ _|refine aA9 ?_|refine aA7 ?_ _));exact dG.out) lP.out (by simp));have n3_:=zK_ (Kd.aGd (Kd.bAe (Kd.aGd (ok:=λk_=>(((w.heap.size<=k_))/\(some k_≠(.slice aTw cY.length aS3:Value).ownBlock/\(k_≠aE/\(k_≠dI/\k_≠aJx))))) (by(with_reducible repeat(first|apply Kd.aFa|apply Kd.aF9|apply Kd.aFl));exact dF.out) (λk_ hk_=>(⟨hk_,hk_.2.2.2.2⟩:_/\k_≠aJx))) hk (λ_ h=>h.2)) (λ_ h=>h.1));have n4_:=zK_ (hb);have n5_:=zK_ (hi);have HL120_0:=zK_ (Kd.bEd HL120_0.out hk (λk_ hk_=>by first|exact hk_.1.2.2.2.2|exact hk_.1.2.2.2.2.2.2));clear aA;clear eE;clear dG;clear dF;clear HB;clear aEq;have aA:=n0_;have eE:=n1_;have dG:=n2_;have dF:=n3_;have HB:=n4_;have aEq:=n5_;clear n0_ n1_ n2_ n3_ n4_ n5_;(try clear hb);(try clear hb2);(try clear hk);(try clear hi);refine hK.out _ _ ⟨(aAc dG.out 0).trans rfl,(aAc dG.out 1).trans rfl,bDe⟩ (λhHeld=>?_);clear hK K;refine aEd (a':=?_) ?_ ?_;rotate_left
  ·show Act.put _ (some 34) _=_;exact zzS
  refine zQ 6 35 (zM 10 127) ?_
  refine aE6 (i:=7) (N:=some 36) (v:=?_) (a':=?_) (zM 10 255) rfl rfl (aC7 HT_.out HW_.out (by kernel_rfl)) (λ_ _ _ h=>h) (Or.inl ⟨by rfl,?_⟩) hHeld ?_ ?_;rotate_left
  ·rintro w' ⟨s0,s1,s2⟩;exact zzT
  rotate_left
  ·exact zzS
  refine aHv (i:=8) (N:=none) (zM 10 511) rfl rfl (aE3 HT_.out (by kernel_rfl)) (by decide) (λK hK=>?_);have bVt:w20.cell? ⟨aE,0,none⟩=some (.int .i64 0):=(aAc aA.out 0).trans rfl;have bTn:=aA0 aA.out 0;have hns21_1:=eG.out;have hms21_1:=iK.out;have bVs:w20.cell? ⟨aE,1,none⟩=some (.slice none 0 0):=(aAc aA.out 1).trans rfl;have bTm:=aA0 aA.out 1;have hns22_1:=eG.out;have hms22_1:=iK.out;refine aW1 (w1:=?_) (by rfl) rfl ?_ ?_;rotate_left
  ·go_simp;rfl
  refine hK.out _ _ ⟨((cell_far (p:=⟨aE,_,none⟩) eG.out _).trans (((cell_far (p:=⟨aE,_,none⟩) eG.out _).trans (hHeld.1)))),((cell_far (p:=⟨aE,_,none⟩) eG.out _).trans (((cell_far (p:=⟨aE,_,none⟩) eG.out _).trans (hHeld.2.1)))),((cell_far (p:=⟨aE,_,none⟩) bIh _).trans (((cell_far (p:=⟨aE,_,none⟩) bIh _).trans (hHeld.2.2))))⟩ (λhHeld=>?_);clear hK K;refine zQ 9 3 (zM 10 1023) ?_
  refine aH4 (aF8 HT_.out (by kernel_rfl)) ?_;(try go_wp2);refine bodyPost_ret (aI1 rfl _ _ aE 25 #[.int .i64 b6,.slice aTw cY.length aS3] (0,0) _ rfl (by(with_reducible repeat(first|refine aA8 ?_ _|refine aA9 ?_|refine aA7 ?_ _));refine aD1 (cs:=#[.int .i64 b6,.slice none 0 0]) ?_ 1 _ rfl;(with_reducible repeat(first|refine aA8 ?_ _|refine aA9 ?_|refine aA7 ?_ _));refine aD1 (cs:=#[.int .i64 0,.slice none 0 0]) ?_ 0 _ rfl;(with_reducible repeat(first|refine aA8 ?_ _|refine aA9 ?_|refine aA7 ?_ _));exact aA.out) Tryz.underlying25 rfl (by kernel_rfl)) rfl ?_;exact⟨_,_,zz7,by(with_reducible repeat(first|apply Kd.aB6|apply Kd.aB5|apply Kd.aBd));exact Kd.aBs (Kd.aE5 (p:=⟨aE,1,none⟩) (Kd.aE5 (p:=⟨aE,0,none⟩) (Kd.aDk eE.out aA.out (by decide)) (λ_ hk=>hk.2) (.int .i64 b6)) (λ_ hk=>hk.2) (.slice aTw cY.length aS3)) (λ_ hk=>hk.1.1),by(with_reducible repeat(first|apply Kd.aKa|apply Kd.aK9|apply Kd.aM7));exact Kd.aK0 (Kd.aWs (p:=⟨aE,1,none⟩) (Kd.aWs (p:=⟨aE,0,none⟩) (Kd.aK0 HL120_0.out (λk_ hk=>(⟨hk,hk.1.2.2.1⟩:_/\k_≠aE))) (λ_ hk=>hk.2) (.int .i64 b6)) (λ_ hk=>hk.2) (.slice aTw cY.length aS3)) (λ_ hk=>⟨hk.1.1.1,hk.1.1.2.1⟩),by repeat(first|(with_reducible first|exact HB.out|apply aB7|apply aAs|apply aAx|refine aAg ?_ (aAi.ge aEq.out)|refine aAg ?_ aD2.out|refine aAg ?_ aWw.out)|exact HB.out)⟩
 replace c5:=zdB c5;subst c5;rw[if_neg (show ¬ (false=true) by decide)]at H;obtain⟨kL,hy_⟩:∃ y_:List (S46),y_=(([(⟨0,1⟩:S46),(⟨0,2⟩:S46),(⟨1,2⟩:S46)]:List (S46))):=⟨_,rfl⟩;(replace H:((aB9.f k 3 kL).bind λjD=>((aBw.f aQ cM eX (jD.1.length:Int)).bind λkX=>(if 0<=kX.1 then(if kX.1<(jD.1.length:Int) then(some (3,kL,aBt jD.1 kX.1)) else(none)) else(none))))=some (r1,r2,r3):=zzY);have zB:=zK_ hy_;clear hy_;replace H:=zO_ H;obtain⟨⟨gP,kQ⟩,bEk,H⟩:=H;dsimp only at H;have A23:=zK_ bEk;clear bEk;replace H:=zO_ H;obtain⟨⟨gU,zO,vM⟩,bMw,H⟩:=H;dsimp only at H;have A24:=zK_ bMw;clear bMw;by_cases c25:0<=gU;rotate_left
 ·rw[if_neg c25]at H;exact absurd H (by simp)
 rw[if_pos c25]at H;have mR:=zdY c25;clear c25;by_cases c26:gU<(gP.length:Int);rotate_left
 ·rw[if_neg c26]at H;exact absurd H (by simp)
 rw[if_pos c26]at H;have oG:=zdY c26;(try(have pK:=oG;first|rw[oR]at pK|rw[<-oR]at pK));clear c26;simp only[Option.some.injEq,Prod.mk.injEq]at H;obtain⟨rfl,rfl,rfl⟩:=H;go_enter Tryz.func4,Tryz.ntmps4;(try go_wp2_with (first|((with_reducible refine aAj (N:=2) rfl ?_);refine aAf ?hg (N:=2) ?hd (cs:=#[.int .i64 0,.slice none 0 0]) (t:=25) ?hr ?_;(case hd=>rfl);(case hg=>rfl);(case hr=>exact aD9);intro aE hg w27 hbox hb;have n_:=zA4 (aA1 zz2 hb) hbox (aDl:w.heap.size<=aE) (aDl:w.heap.size<=aE);clear HB;obtain⟨HB,aA,aDd,aD2⟩:=n_;clear hb hbox hg)|((with_reducible refine aA5 (f:=16) rfl ?_);refine aB8 (some 9) rfl rfl Tryz.func16 (by kernel_rfl) rfl #[.slice A0 l0.length c0] rfl zz3 ?_;(with_reducible refine(aBu.calls k _ _ l0 aQ a6 gJ w _ ?side1 ?side2 ?side3 A2.out).mono ?_);(case side1=>exact zz0);(case side2=>exact HR0.out);(case side3=>exact HC0.out);rintro e w28 ⟨aJx,rfl,hi,hb,hb2⟩;refine⟨_,rfl,?_⟩;have n_:=zA5 (aA4 (g:=aE) (o:=.cells #[.int .i64 0,.slice none 0 0] 25 (0,0)) zz1 hb2) hb hi (aAi.aUu hi (aA4 (g:=aE) (o:=.cells #[.int .i64 0,.slice none 0 0] 25 (0,0)) zz1 hb2) (by decide)) (Ne.symm (aAi.aUu hi (aA4 (g:=aE) (o:=.cells #[.int .i64 0,.slice none 0 0] 25 (0,0)) zz1 hb2) (by decide)));clear aA HB;obtain⟨aA,HB,aEq,cO,fG⟩:=n_;clear hi hb hb2)|((with_reducible refine aA5 (f:=17) rfl ?_);refine aB8 (some 11) rfl rfl Tryz.func17 (by kernel_rfl) rfl #[.pointer (some ⟨aJx,0,none⟩)] rfl zz3 ?_;(with_reducible refine(aDv.calls k aJx aQ a6 gJ b6 cY cM eX w _ ?side1 ?side2 A3.out).mono ?_);(case side1=>exact zF1);(case side2=>repeat(first|(with_reducible first|exact HB.out|apply aB7|apply aAs|apply aAx|refine aAg ?_ (aAi.ge aEq.out)|refine aAg ?_ aD2.out)|exact HB.out));rintro e w29 ⟨bQn,rfl,ho0,hi,hb,hk⟩;refine⟨_,rfl,?_⟩;have n_:=zA4 (aAw.blk hk (g':=aE) (o:=.cells #[.int .i64 0,.slice none 0 0] 25 (0,0)) zz1 fG.out (by simp)) (Kd.aCn (Kd.bA9 (M:=λk_=>(w.heap.size<=k_)) ho0 (aAa bAw) (λk_ h_=>h_)) (aAa bAw)) hb hi;clear aA HB aEq;obtain⟨aA,eE,HB,aEq⟩:=n_;clear ho0 hi hb hk)|((with_reducible refine aAj (N:=5) rfl ?_);refine aAf ?hg (N:=5) ?hd (cs:=#[.int .i64 0,.slice none 0 0]) (t:=25) ?hr ?_;(case hd=>rfl);(case hg=>rfl);(case hr=>exact aD9);intro dI hg w30 hbox hb;have n_:=bOc (Kd.aBn aVp hb) (aA4 (g:=aE) (o:=.cells #[.int .i64 0,.slice none 0 0] 25 (0,0)) zz1 hb) (aAi.below ((zF1)) hb) (aA1 bAw hb) hbox (by rw[hg];exact(aAa bAw):w.heap.size<=dI) (by rw[hg];exact(aAa bAw):w.heap.size<=dI) (aX7:aE≠dI) (aX6:dI≠aE) (by rw[hg];exact Nat.ne_of_lt (aAi.lt (show aAi w _ aJx aQ cM eX from(zF1))):aJx≠dI) (by rw[hg];exact Nat.ne_of_gt (aAi.lt (show aAi w _ aJx aQ cM eX from(zF1))):dI≠aJx);clear eE aA aEq HB;obtain⟨eE,aA,aEq,HB,dG,bQ1,aWw,iK,eG,fI,lP⟩:=n_;clear hb hbox hg;have PV:=eG.out;have OS:=iK.out;have BT:=lP.out;have BC:=fI.out;have uI:=aCe dG;have uH:=aCd dG;have t2:=aA0 dG.out 0;have t1:=aA0 dG.out 1;obtain⟨aWx,aVb,NE⟩:=Kd.aBr eE.out;subst NE)|((with_reducible refine aA5 (f:=18) rfl ?_);refine aB8 (some 14) rfl rfl Tryz.func18 (by kernel_rfl) rfl #[.agg #[.int .i64 b6,.slice aWx cY.length aVb]] rfl zz3 ?_;(with_reducible refine(aB9.calls k b6 _ _ cY lT false _ ?side1 ?side2 A4.out).mono ?_);(case side1=>refine(Kd.aAl (e:=46) (base:=w.heap.size) (ok:=λk_=>((w.heap.size<=k_)/\True)) (n:=cY.length) (c:=aVb) ?_).2.2;exact bO5);(case side2=>exact(Kd.aAl eE.out).2.1);rintro e w35 ⟨bI1,rfl,ho0,hb⟩;refine⟨_,rfl,?_⟩;have n_:=zA6 (Kd.aBn bO5 hb) (Kd.aNs (Kd.aGd (ok':=λk_=>(w.heap.size<=k_)/\some k_≠(.slice aWx cY.length aVb:Value).ownBlock/\k_≠aE/\k_≠dI/\k_≠aJx) ho0 (λk_ hk_=>⟨(Nat.le_trans (aAa aX1) hk_),(Kd.fresh' (Kd.aIv bO5) k_ hk_),(Kd.aFb (g:=aE) (o:=.cells #[.int .i64 0,.slice none 0 0] 25 (0,0)) bHy k_ hk_),(Kd.aFb (g:=dI) (o:=.cells #[.int .i64 b6,.slice aWx cY.length aVb] 25 (0,0)) bN4 k_ hk_),(aAi.fresh bN0 k_ hk_)⟩)) (aAa aX1)) (aA4 (g:=aE) (o:=.cells #[.int .i64 0,.slice none 0 0] 25 (0,0)) bHy hb) (aAi.below (show aAi w ((w30.setCell ⟨dI,0,none⟩ (.int .i64 b6)).setCell ⟨dI,1,none⟩ (.slice aWx cY.length aVb)) aJx aQ cM eX from(zF1)) hb) (aA4 (g:=dI) (o:=.cells #[.int .i64 b6,.slice aWx cY.length aVb] 25 (0,0)) bN4 hb) (aA1 aX1 hb);clear eE aA aEq dG HB;obtain⟨eE,dF,aA,aEq,dG,HB⟩:=n_;clear ho0 hb)|((with_reducible refine aAj (N:=22) rfl ?_);refine Kd.aL2 k46 _ 46 ?hg (N:=22) ?hd (xs:=([(⟨0,1⟩:S46),(⟨0,2⟩:S46),(⟨1,2⟩:S46)]:List (S46))) (inner:=[.int .i64 0,.int .i64 1,.int .i64 0,.int .i64 2,.int .i64 1,.int .i64 2]) (ok:=λ_=>True) (okp:=λ_=>True) ?hr ?hp (λ_ hk=>hk) trivial (Below.refl _ _) (Nat.le_refl _) (by simp) ?_;(case hd=>rfl);(case hg=>rfl);(case hr=>exact aD9);(case hp=>exact(aEs.c2 (show Kd.M k46 _ _ _ (⟨0,1⟩:S46) [.int .i64 0,.int .i64 1] from(aG7 _ _ _ (⟨0,1⟩:S46))) (aEs.c2 (show Kd.M k46 _ _ _ (⟨0,2⟩:S46) [.int .i64 0,.int .i64 2] from(aG7 _ _ _ (⟨0,2⟩:S46))) (aEs.c2 (show Kd.M k46 _ _ _ (⟨1,2⟩:S46) [.int .i64 1,.int .i64 2] from(aG7 _ _ _ (⟨1,2⟩:S46))) (aEs.none _ _)))));intro bVb w36 bG6 hb hg_ aF7;clear hg_ aF7;(first|rw[<-zB.out]at bG6|(simp only[Int.reduceToNat]at bG6;rw[<-zB.out]at bG6));have n_:=zA7 (Kd.aDp aVp (Kd.aDn bG6) hb) (Kd.aPu (by(with_reducible repeat(first|apply Kd.aFa|apply Kd.aF9|apply Kd.aFl));exact dF.out) (Kd.aDn bG6) hb) (Kd.aCn (Kd.aEt (Kd.bA9 (M:=λk_=>(w.heap.size<=k_)) bG6 (aAa aX1) (λk_ h_=>h_)) (Kd.aIv aVp)) (aAa aX1)) (aA4 (g:=aE) (o:=.cells #[.int .i64 0,.slice none 0 0] 25 (0,0)) zz1 hb) (aAi.below bN0 hb) (aA4 (g:=dI) (o:=.cells #[.int .i64 b6,.slice aWx cY.length aVb] 25 (0,0)) (by(with_reducible repeat(first|refine aA8 ?_ _|refine aA9 ?_|refine aA7 ?_ _));exact dG.out) hb) (aA1 aX1 hb);clear eE dF aA aEq dG HB;obtain⟨eE,dF,lQ,aA,aEq,dG,HB⟩:=n_;clear hb bG6;obtain⟨aNv,aMr,zV⟩:=Kd.aBr lQ.out;subst zV;have uG:=aCe dG;have uF:=aCd dG;have tZ:=aA0 dG.out 0;have tY:=aA0 dG.out 1)|((with_reducible refine aA5 (f:=18) rfl ?_);refine aB8 (some 26) rfl rfl Tryz.func18 (by kernel_rfl) rfl #[.agg #[.int .i64 3,.slice aNv kL.length aMr]] rfl zz3 ?_;(with_reducible refine(aB9.calls k 3 _ _ kL gP kQ _ ?side1 ?side2 A23.out).mono ?_);(case side1=>refine(Kd.aAl (e:=46) (base:=w.heap.size) (ok:=λk_=>(((w.heap.size<=k_)/\True)/\some k_≠(.slice aWx cY.length aVb:Value).ownBlock)) (n:=kL.length) (c:=aMr) ?_).2.2;exact bEx);(case side2=>exact(Kd.aAl lQ.out).2.1);rintro e w40 ⟨bQm,rfl,ho0,hb⟩;refine⟨_,rfl,?_⟩;have n_:=zA8 (Kd.aBn bIg hb) (Kd.aPu bIj (Kd.bEj ho0) hb) (Kd.aBn bEx hb) (Kd.aNs (Kd.aGd (ok':=λk_=>(w.heap.size<=k_)/\some k_≠(.slice aWx cY.length aVb:Value).ownBlock/\some k_≠(bI1:Value).ownBlock/\some k_≠(.slice aNv kL.length aMr:Value).ownBlock/\k_≠aE/\k_≠dI/\k_≠aJx) ho0 (λk_ hk_=>⟨(Nat.le_trans (aAa aX1) hk_),(Kd.fresh' (Kd.aIv bIg) k_ hk_),(Kd.fresh' (Kd.bO0 bIj) k_ hk_),(Kd.fresh' (Kd.aIv bEx) k_ hk_),(Kd.aFb (g:=aE) (o:=.cells #[.int .i64 0,.slice none 0 0] 25 (0,0)) bHy k_ hk_),(Kd.aFb (g:=dI) (o:=.cells #[.int .i64 3,.slice aNv kL.length aMr] 25 (0,0)) bIq k_ hk_),(aAi.fresh bN0 k_ hk_)⟩)) (aAa aX1)) (aA4 (g:=aE) (o:=.cells #[.int .i64 0,.slice none 0 0] 25 (0,0)) bHy hb) (aAi.below (show aAi w ((w36.setCell ⟨dI,0,none⟩ (.int .i64 3)).setCell ⟨dI,1,none⟩ (.slice aNv kL.length aMr)) aJx aQ cM eX from(zF1)) hb) (aA4 (g:=dI) (o:=.cells #[.int .i64 3,.slice aNv kL.length aMr] 25 (0,0)) bIq hb) (aA1 aX1 hb);clear eE dF lQ aA aEq dG HB;obtain⟨eE,dF,lQ,dM,aA,aEq,dG,HB⟩:=n_;clear ho0 hb)));have n_:=zA8 (Kd.aBd eE.out) (Kd.aFl dF.out) (Kd.aBd lQ.out) (Kd.aFl dM.out) (aA9 aA.out) (aA9 dG.out) (aAi.drew aEq.out) (aAx HB.out);clear eE dF lQ dM aA dG aEq HB;obtain⟨eE,dF,lQ,dM,aA,dG,aEq,HB⟩:=n_;obtain⟨bQ7,bGq,rR⟩:=Kd.aTr dM.out;(first|subst rR|(injection rR with f1_ f2_ f3_;have f4_:=f1_.symm;have f5_:=f3_.symm;clear f1_ f2_ f3_;subst f4_;subst f5_));have bNl:0<=(gU:Int):=zdT zz4;have bNe:gU<(gP.length:Int):=zdT zz4;obtain⟨yZ,A131_0,c131_0,bU3,qT,tR,hi131_0⟩:=aH8 (Kd.aHk dM.out).2.2 gU bNl bNe;cases bU3;obtain⟨bUg,bKl,bKr,bE4⟩:=Kd.bDb dM.out [] gU bNl (by first|exact bNe|exact zdT zz4|(have e_:=(Kd.aHk dM.out).1;omega));obtain⟨ua131_0,uc131_0,rfl,ul131_0,ge131_0⟩:=Kd.aGu bKr;have hv131_0:=bE4 0 _ rfl;rw[Nat.add_zero,show ((Kd.slice 3 (Kd.int .i64))).sz=1 from rfl,Nat.mul_one]at hv131_0;replace hv131_0:=zdI (hv131_0.symm.trans qT);injection hv131_0 with aZb bG4 aZa;rw[aZb]at ge131_0;rw[aZa]at ul131_0;have HL131_0:=zK_ (show Kd.V (Kd.int .i64) 3 _ w.heap.size _ _ (aBt gP gU) from Kd.bNy ul131_0 ge131_0);clear aZb bG4 aZa ge131_0 ul131_0;clear bE4 bKl;have HR131_0:=zK_ hi131_0;have HC131_0:=zK_ tR;clear hi131_0 tR;replace bNl:=eq_true bNl;replace bNe:=eq_true bNe;refine aFp (n:=10) (S:=λw'=>w'.cell? ⟨dI,0,none⟩=some (.int .i64 3)/\w'.cell? ⟨dI,1,none⟩=some (.slice aNv kL.length aMr)/\w'.cell? (yZ.add (gU).toNat)=some (.slice A131_0 (aBt gP gU).length c131_0)) (ds:=[]) (zM 10 0) (by kernel_rfl) rfl rfl ⟨(aAc dG.out 0).trans rfl,(aAc dG.out 1).trans rfl,qT⟩ (λhHeld=>?_);refine aE1 aCi.bQo aCi.bLv (λHT_ HW_=>?_);generalize w40.drew=w41 at eE dF lQ dM aA dG aEq HB HL131_0 HR131_0 qT hHeld ⊢;refine zQ 1 30 (zM 10 2) ?_
 refine zQ 2 31 (zM 10 6) ?_
 refine zQ 3 32 (zM 10 14) ?_
 refine zQ 4 33 (zM 10 30) ?_
 refine aE6 (i:=0) (N:=some 29) (v:=?_) (a':=?_) (zM 10 31) rfl rfl (aC7 HT_.out HW_.out (by kernel_rfl)) (λ_ _ _ h=>h) (Or.inl ⟨by rfl,?_⟩) hHeld ?_ ?_;rotate_left
 ·rintro w' ⟨s0,s1,s2⟩;exact zzT
 rotate_left
 ·exact zzS
 refine aHv (i:=5) (N:=some 34) (zM 10 63) rfl rfl (aE3 HT_.out (by kernel_rfl)) (by decide) (λK hK=>?_);refine aG5 Tryz.func19 (by kernel_rfl) rfl #[.pointer (some ⟨aJx,0,none⟩),.int .i64 (gP.length:Int)] (by rfl) rfl rfl zz3 ?_;(with_reducible refine(aBw.calls aJx aQ cM eX (gP.length:Int) gU zO vM w _ ?side1 ?side2 A24.out).mono ?_);(case side1=>exact zF1);(case side2=>repeat(first|(with_reducible first|exact HB.out|apply aB7|apply aAs|apply aAx|refine aAg ?_ (aAi.ge aEq.out)|refine aAg ?_ aD2.out|refine aAg ?_ aWw.out)|exact HB.out));rintro e w43 ⟨rfl,hi,hb,hk⟩;have bDe:=aR4 hk (hHeld.2.2) (by first|(rw[add_block];exact Kd.aFj (aAi.aLe aEq.out dM.out (by decide)))|(show (Addr.add _ _).block≠_;rw[add_block];exact Kd.aFj (aAi.aLe aEq.out dM.out (by decide)))|exact Kd.aFj (aAi.aLe aEq.out dM.out (by decide)));refine⟨_,rfl,?_⟩;have n0_:=zK_ (aAw.blk hk (g':=aE) (o:=.cells #[.int .i64 0,.slice none 0 0] 25 (0,0)) zz1 fG.out (by simp));have n1_:=zK_ (Kd.aBs (Kd.aGc (aAi.apart (show aAi w _ aJx aQ cM eX from(zF1)) aVp (by decide)) hk (λ_ h=>h.2)) (λ_ h=>h.1));have n2_:=zK_ (aAw.blk hk (g':=dI) (o:=.cells #[.int .i64 3,.slice aNv kL.length aMr] 25 (0,0)) (by(with_reducible repeat(first|refine aA8 ?_ _|refine aA9 ?_|refine aA7 ?_ _));exact dG.out) lP.out (by simp));have n3_:=zK_ (Kd.aGd (Kd.bAe (Kd.aGd (ok:=λk_=>(((((w.heap.size<=k_))/\(some k_≠(.slice aWx cY.length aVb:Value).ownBlock/\(k_≠aE/\(k_≠dI/\k_≠aJx))))/\some k_≠(.slice aNv kL.length aMr:Value).ownBlock)/\some k_≠(.slice (some yZ) gP.length bGq:Value).ownBlock)) (by(with_reducible repeat(first|apply Kd.aFa|apply Kd.aF9|apply Kd.aFl));exact dF.out) (λk_ hk_=>(⟨hk_,hk_.1.1.2.2.2.2⟩:_/\k_≠aJx))) hk (λ_ h=>h.2)) (λ_ h=>h.1));have n4_:=zK_ (Kd.aBs (Kd.aGc (aAi.apart (show aAi w _ aJx aQ cM eX from(zF1)) (by(with_reducible repeat(first|apply Kd.aB6|apply Kd.aB5|apply Kd.aBd));exact lQ.out) (by decide)) hk (λ_ h=>h.2)) (λ_ h=>h.1));have n5_:=zK_ (Kd.aGd (Kd.bAe (Kd.aGd (ok:=λk_=>(((w.heap.size<=k_))/\(some k_≠(.slice aWx cY.length aVb:Value).ownBlock/\(some k_≠(bI1:Value).ownBlock/\(some k_≠(.slice aNv kL.length aMr:Value).ownBlock/\(k_≠aE/\(k_≠dI/\k_≠aJx))))))) (by(with_reducible repeat(first|apply Kd.aFa|apply Kd.aF9|apply Kd.aFl));exact dM.out) (λk_ hk_=>(⟨hk_,hk_.2.2.2.2.2.2⟩:_/\k_≠aJx))) hk (λ_ h=>h.2)) (λ_ h=>h.1));have n6_:=zK_ (hb);have n7_:=zK_ (hi);have HL131_0:=zK_ (Kd.bEd HL131_0.out hk (λk_ hk_=>by first|exact hk_.1.2.2.2.2|exact hk_.1.2.2.2.2.2.2));clear aA;clear eE;clear dG;clear dF;clear lQ;clear dM;clear HB;clear aEq;have aA:=n0_;have eE:=n1_;have dG:=n2_;have dF:=n3_;have lQ:=n4_;have dM:=n5_;have HB:=n6_;have aEq:=n7_;clear n0_ n1_ n2_ n3_ n4_ n5_ n6_ n7_;(try clear hb);(try clear hb2);(try clear hk);(try clear hi);refine hK.out _ _ ⟨(aAc dG.out 0).trans rfl,(aAc dG.out 1).trans rfl,bDe⟩ (λhHeld=>?_);clear hK K;refine aEd (a':=?_) ?_ ?_;rotate_left
 ·show Act.put _ (some 34) _=_;exact zzS
 refine zQ 6 35 (zM 10 127) ?_
 refine aE6 (i:=7) (N:=some 36) (v:=?_) (a':=?_) (zM 10 255) rfl rfl (aC7 HT_.out HW_.out (by kernel_rfl)) (λ_ _ _ h=>h) (Or.inl ⟨by rfl,?_⟩) hHeld ?_ ?_;rotate_left
 ·rintro w' ⟨s0,s1,s2⟩;exact zzT
 rotate_left
 ·exact zzS
 refine aHv (i:=8) (N:=none) (zM 10 511) rfl rfl (aE3 HT_.out (by kernel_rfl)) (by decide) (λK hK=>?_);have bVr:w43.cell? ⟨aE,0,none⟩=some (.int .i64 0):=(aAc aA.out 0).trans rfl;have bTl:=aA0 aA.out 0;have hns44_1:=eG.out;have hms44_1:=iK.out;have bVq:w43.cell? ⟨aE,1,none⟩=some (.slice none 0 0):=(aAc aA.out 1).trans rfl;have bTk:=aA0 aA.out 1;have hns45_1:=eG.out;have hms45_1:=iK.out;refine aW1 (w1:=?_) (by rfl) rfl ?_ ?_;rotate_left
 ·go_simp;rfl
 refine hK.out _ _ ⟨((cell_far (p:=⟨aE,_,none⟩) eG.out _).trans (((cell_far (p:=⟨aE,_,none⟩) eG.out _).trans (hHeld.1)))),((cell_far (p:=⟨aE,_,none⟩) eG.out _).trans (((cell_far (p:=⟨aE,_,none⟩) eG.out _).trans (hHeld.2.1)))),((cell_far (p:=⟨aE,_,none⟩) bIk _).trans (((cell_far (p:=⟨aE,_,none⟩) bIk _).trans (hHeld.2.2))))⟩ (λhHeld=>?_);clear hK K;refine zQ 9 3 (zM 10 1023) ?_
 refine aH4 (aF8 HT_.out (by kernel_rfl)) ?_;(try go_wp2);refine bodyPost_ret (aI1 rfl _ _ aE 25 #[.int .i64 3,.slice aNv kL.length aMr] (0,0) _ rfl (by(with_reducible repeat(first|refine aA8 ?_ _|refine aA9 ?_|refine aA7 ?_ _));refine aD1 (cs:=#[.int .i64 3,.slice none 0 0]) ?_ 1 _ rfl;(with_reducible repeat(first|refine aA8 ?_ _|refine aA9 ?_|refine aA7 ?_ _));refine aD1 (cs:=#[.int .i64 0,.slice none 0 0]) ?_ 0 _ rfl;(with_reducible repeat(first|refine aA8 ?_ _|refine aA9 ?_|refine aA7 ?_ _));exact aA.out) Tryz.underlying25 rfl (by kernel_rfl)) rfl ?_;exact⟨_,_,zz7,by(with_reducible repeat(first|apply Kd.aB6|apply Kd.aB5|apply Kd.aBd));exact Kd.aBs (Kd.aE5 (p:=⟨aE,1,none⟩) (Kd.aE5 (p:=⟨aE,0,none⟩) (Kd.aDk lQ.out aA.out (by decide)) (λ_ hk=>hk.2) (.int .i64 3)) (λ_ hk=>hk.2) (.slice aNv kL.length aMr)) (λ_ hk=>hk.1.1.1),by(with_reducible repeat(first|apply Kd.aKa|apply Kd.aK9|apply Kd.aM7));exact Kd.aK0 (Kd.aWs (p:=⟨aE,1,none⟩) (Kd.aWs (p:=⟨aE,0,none⟩) (Kd.aK0 HL131_0.out (λk_ hk=>(⟨hk,hk.1.2.2.2.2.1⟩:_/\k_≠aE))) (λ_ hk=>hk.2) (.int .i64 3)) (λ_ hk=>hk.2) (.slice aNv kL.length aMr)) (λ_ hk=>⟨hk.1.1.1,hk.1.1.2.2.2.1⟩),by repeat(first|(with_reducible first|exact HB.out|apply aB7|apply aAs|apply aAx|refine aAg ?_ (aAi.ge aEq.out)|refine aAg ?_ aD2.out|refine aAg ?_ aWw.out)|exact HB.out)⟩
def aC9.l0:Nat->Int->Int->List Int->Int->Int->Option (List Int×Int×Int)
 | 0,_,_,_,_,_=>none
 | k+1,x1,x6,qM,tJ,tI=>if x6<x1 then((aCf.f qM tJ tI).bind λnK=>(aC9.l0 k x1 (wrap64 (x6+1)) qM nK.2.1 nK.2.2)) else(some (qM,tJ,tI))
def aC9.f (k:Nat) (l0:List Int) (a1:Int):Option (List Int×Int×Int):=(aBu.f k l0).bind λb5=>(aC9.l0 k a1 0 b5.1 b5.2.1 b5.2.2)
theorem aC9.aBp:∀ k,(∀ y0 y1 y2 y3 y4,LeO (aC9.l0 k y0 y1 y2 y3 y4) (aC9.l0 (k+1) y0 y1 y2 y3 y4))
 | 0=>λ_ _ _ _ _ r h=>by simp[aC9.l0]at h
 | k+1=>by
  have ih0:=aC9.aBp k
  ·intro y0 y1 y2 y3 y4
   unfold aC9.l0
   exact bQe
theorem aC9.mono:∀ a0 a1 k,LeO (aC9.f k a0 a1) (aC9.f (k+1) a0 a1):=by
 intro a0 a1 k;have ih0:=aC9.aBp k;unfold aC9.f;exact bQe
theorem aC9.bOo {w0 w W W7:World} {g:Nat} (h0:Below w0.heap.size w0 W) (h:Below w.heap.size w W) (h7:Below w0.heap.size w0 W7) (hk:aAw W W7 g none) (hg:w.heap.size<=g):Below w.heap.size w W7 :=
 ⟨h7.os.trans (h0.os.symm.trans h.os),h7.tape.trans (h0.tape.symm.trans h.tape),h7.output.trans (h0.output.symm.trans h.output),Nat.le_trans h.size hk.1,λi hi=>(hk.2 i (Nat.lt_of_lt_of_le hi h.size) (by omega) (by simp)).trans (h.block i hi)⟩
theorem aC9.calls (k:Nat) (A0:Option Addr) (c0:Nat) (l0:List Int) (a1:Int) (r1:List Int) (r2:Int) (r3:Int) (w0 w:World) (hB:Below w0.heap.size w0 w) (hr0:Kd.C (Kd.int .u8) w0 A0 l0.length l0) (hc0:l0.length<=c0) (h:aC9.f k l0 a1=some (r1,r2,r3)) :
  Calls Tryz.prog 20 #[.slice A0 l0.length c0,.int .i64 a1] w λe w'=>∃ g_:Nat,e = .returned (.pointer (some ⟨g_,0,none⟩))/\aAi w0 w' g_ r1 r2 r3/\Below w0.heap.size w0 w'/\Below w.heap.size w w':=by
 have HR0:=zK_ hr0;have HC0:=zK_ hc0;clear hr0 hc0;have HBW:=zK_ (Below.refl w.heap.size w);have HW0:=zK_ hB.size;have HB:=zK_ hB;clear hB;have H:((aBu.f k l0).bind λb5=>(aC9.l0 k a1 0 b5.1 b5.2.1 b5.2.2))=some (r1,r2,r3):=h;clear h;replace H:=zO_ H;obtain⟨⟨bO,aQ,a6⟩,A30,H⟩:=H;dsimp only at H;have A3:=zK_ A30;clear A30;have H':=zK_ H;clear H;go_enter Tryz.func20,Tryz.ntmps20;(go_wp2_with (first|((with_reducible refine aA5 (f:=16) rfl ?_);refine aB8 (some 8) rfl rfl Tryz.func16 (by kernel_rfl) rfl #[.slice A0 l0.length c0] rfl zz3 ?_;(with_reducible refine(aBu.bE7 k _ _ l0 bO aQ a6 w0 _ ?side1 ?side2 ?side3 A3.out).mono ?_);(case side1=>repeat(first|(with_reducible first|exact HB.out|apply aB7|apply aAs|apply aAx)|exact HB.out));(case side2=>exact HR0.out);(case side3=>exact HC0.out);rintro e w4 ⟨bCs,rfl,hi,hb,hb2,gw_⟩;refine⟨_,rfl,?_⟩;have n0_:=zK_ (hb);have n1_:=zK_ (hi);have n2_:=zK_ (aA1 bHp hb2);have n3_:=zK_ (Nat.le_trans (aAa bHp) gw_:w.heap.size<=bCs);clear gw_;clear HBW;have HBW:=n2_;have GWg:=n3_;clear n2_ n3_;clear HB;have HB:=n0_;have aL4:=n1_;clear n0_ n1_;clear hi hb hb2)));(go_loopg [6] k (λkq v6 w'=>∃ (vG:Int) (mX:Int) (mW:Int),v6 = .int .i64 vG/\aA2 (aC9.l0 kq a1 vG bO mX mW=some (r1,r2,r3))/\aA2 (kq<=k)/\aA2 (aAi w0 w' bCs bO mX mW)/\aA2 (Below w0.heap.size w0 w')/\aA2 (Below w.heap.size w w')));case atStart=>exact⟨(0),(aQ),(a6),zz6,H',⟨Nat.le_refl _⟩,⟨aVm⟩,⟨aS8⟩,⟨bEs⟩⟩
 case round =>
  clear H';(try clear c1);(try clear c2);(try clear p2);obtain⟨vG,mX,mW,rfl,HA,HK1,aL4,HB,HBW⟩:=hrel
  cases gk with
  | zero=>exact absurd HA.out (by simp[aC9.l0])
  | succ k1 =>
   have H:=HA.out;clear HA;simp only[aC9.l0]at H;by_cases c5:vG<a1;rotate_left
   ·rw[if_neg c5]at H;have fD:=zdN c5;clear c5;simp only[Option.some.injEq,Prod.mk.injEq]at H;obtain⟨rfl,rfl,rfl⟩:=H;go_wp2;go_ret;exact⟨_,rfl,aVm,aS8,bEs⟩
   rw[if_pos c5]at H;have fD:=zdY c5;clear c5;replace H:=zO_ H;obtain⟨⟨fA,b6,cY⟩,A60,H⟩:=H;dsimp only at H;have A6:=zK_ A60;clear A60;have H':=zK_ H;clear H;(go_wp2_with (first|((with_reducible refine aA5 (f:=21) rfl ?_);refine aB8 (some 15) rfl rfl Tryz.func21 (by kernel_rfl) rfl #[.pointer (some ⟨bCs,0,none⟩)] rfl zz3 ?_;(with_reducible refine(aCf.calls bCs bO mX mW fA b6 cY w0 _ ?side1 ?side2 A6.out).mono ?_);(case side1=>exact aVm);(case side2=>exact aS8);rintro e w7 ⟨rfl,hi,hb,hk⟩;refine⟨_,rfl,?_⟩;have n0_:=zK_ (hb);have n1_:=zK_ (hi);have n2_:=zK_ (aC9.bOo (by repeat(first|(with_reducible first|exact HB.out|apply aB7|apply aAs|apply aAx|refine aAg ?_ (aAi.ge aL4.out))|exact HB.out)) (by repeat(first|(with_reducible first|exact HBW.out|apply aB7|apply aAs|apply aAx|refine aAg ?_ GWg.out)|exact HBW.out)) hb hk GWg.out);clear HBW;have HBW:=n2_;clear n2_;clear HB;clear aL4;have HB:=n0_;have aL4:=n1_;clear n0_ n1_;clear hi hb hk)));go_roundg k1;(case measure=>have:=HK1.out;omega);case rel=>exact⟨(wrap64 (vG+1)),(b6),(cY),zz6,H',⟨aHl⟩,⟨aVm⟩,⟨aS8⟩,⟨bEs⟩⟩
def aE2.f (k:Nat) (l0:List Int) (a1:Int):Option (Int):=(aC9.f k l0 a1).bind λb5=>((aCf.f b5.1 b5.2.1 b5.2.2).bind λnK=>((aCf.f b5.1 nK.2.1 nK.2.2).bind λkZ=>(some (wrap64 ((wrap64 (nK.1*256))+kZ.1)))))
theorem aE2.mono:∀ a0 a1 k,LeO (aE2.f k a0 a1) (aE2.f (k+1) a0 a1):=by
 intro a0 a1 k;unfold aE2.f;repeat' first|(with_reducible apply aC9.mono)|(with_reducible exact LeO.refl _)|(with_reducible exact LeO.none _)|(with_reducible refine LeO.ite ?_ ?_)|(with_reducible refine LeO.bind ?_ (λ_=>?_))|apply aC9.mono|exact LeO.none _|refine LeO.ite ?_ ?_|refine LeO.bind ?_ (λ_=>?_)
theorem aE2.calls (k:Nat) (A0:Option Addr) (c0:Nat) (l0:List Int) (a1:Int) (r:Int) (w:World) (hr0:Kd.C (Kd.int .u8) w A0 l0.length l0) (hc0:l0.length<=c0) (h:aE2.f k l0 a1=some r) :
  Calls Tryz.prog 5 #[.slice A0 l0.length c0,.int .i64 a1] w λe w'=>e = .returned (.int .i64 r)/\Below w.heap.size w w':=by
 have HR0:=zK_ hr0;have HC0:=zK_ hc0;clear hr0 hc0;have HB:=zK_ (Below.refl w.heap.size w);have H:((aC9.f k l0 a1).bind λb5=>((aCf.f b5.1 b5.2.1 b5.2.2).bind λnK=>((aCf.f b5.1 nK.2.1 nK.2.2).bind λkZ=>(some (wrap64 ((wrap64 (nK.1*256))+kZ.1))))))=some r:=h;clear h;replace H:=zO_ H;obtain⟨⟨bO,aQ,a6⟩,A30,H⟩:=H;dsimp only at H;have A3:=zK_ A30;clear A30;replace H:=zO_ H;obtain⟨⟨fA,b6,cY⟩,A40,H⟩:=H;dsimp only at H;have A4:=zK_ A40;clear A40;replace H:=zO_ H;obtain⟨⟨eO,cV,cM⟩,A50,H⟩:=H;dsimp only at H;have A5:=zK_ A50;clear A50;obtain rfl:=zdI H;go_enter Tryz.func5,Tryz.ntmps5;(go_wp2_with (first|((with_reducible refine aA5 (f:=20) rfl ?_);refine aB8 (some 8) rfl rfl Tryz.func20 (by kernel_rfl) rfl #[.slice A0 l0.length c0,.int .i64 a1] rfl zz3 ?_;(with_reducible refine(aC9.calls k _ _ l0 a1 bO aQ a6 w _ ?side1 ?side2 ?side3 A3.out).mono ?_);(case side1=>repeat(first|(with_reducible first|exact HB.out|apply aB7|apply aAs|apply aAx)|exact HB.out));(case side2=>exact HR0.out);(case side3=>exact HC0.out);rintro e w6 ⟨bCs,rfl,hi,hb,hb2⟩;refine⟨_,rfl,?_⟩;have n_:=zA2 hb hi;clear HB;obtain⟨HB,aL4⟩:=n_;clear hi hb hb2)|((with_reducible refine aA5 (f:=21) rfl ?_);refine aB8 (some 10) rfl rfl Tryz.func21 (by kernel_rfl) rfl #[.pointer (some ⟨bCs,0,none⟩)] rfl zz3 ?_;(with_reducible refine(aCf.calls bCs bO aQ a6 fA b6 cY w _ ?side1 ?side2 A4.out).mono ?_);(case side1=>exact aVm);(case side2=>exact aS8);rintro e w7 ⟨rfl,hi,hb,hk⟩;refine⟨_,rfl,?_⟩;have n_:=zA2 hb hi;clear HB aL4;obtain⟨HB,aL4⟩:=n_;clear hi hb hk)|((with_reducible refine aA5 (f:=21) rfl ?_);refine aB8 (some 13) rfl rfl Tryz.func21 (by kernel_rfl) rfl #[.pointer (some ⟨bCs,0,none⟩)] rfl zz3 ?_;(with_reducible refine(aCf.calls bCs bO b6 cY eO cV cM w _ ?side1 ?side2 A5.out).mono ?_);(case side1=>exact aVm);(case side2=>exact aS8);rintro e w8 ⟨rfl,hi,hb,hk⟩;refine⟨_,rfl,?_⟩;have n_:=zA2 hb hi;clear HB aL4;obtain⟨HB,aL4⟩:=n_;clear hi hb hk)));go_ret;exact⟨zz7,aS8⟩
def aDh.f (a0:Int) (a1:Int) (a2:Int):Option (Bool):=if a0≥a1 then(some (decide (a0<=a2))) else(some false)
theorem aDh.calls (a0:Int) (a1:Int) (a2:Int) (r:Bool) (w:World) (h:aDh.f a0 a1 a2=some r) :
  Calls Tryz.prog 42 #[.int .i64 a0,.int .i64 a1,.int .i64 a2] w λe w'=>e = .returned (.bool r)/\aB0 w w':=by
 have H:(if a0≥a1 then(some (decide (a0<=a2))) else(some false))=some r:=h;clear h;by_cases c4:a0≥a1
 ·rw[if_pos c4]at H;have gW:decide (a1<=a0)=true:=zdY c4;clear c4;obtain rfl:=zdI H;go_enter Tryz.func42,Tryz.ntmps42;go_wp2;go_ret;exact⟨zz6,by repeat(first|exact aB0.refl _|apply aB0.step)⟩
 rw[if_neg c4]at H;have gW:decide (a1<=a0)=false:=zdN c4;clear c4;obtain rfl:=zdI H;go_enter Tryz.func42,Tryz.ntmps42;go_wp2;go_ret;exact⟨zz6,by repeat(first|exact aB0.refl _|apply aB0.step)⟩
mutual
def aBq.j0:Nat->Bool->Int->List (S46)->Option (Bool)
 | 0,_,_,_=>none
 | k+1,q5,aY,aW=>if q5=true then(some false) else(aBq.l0 k aW (aW.length:Int) 0 aY aW)
def aBq.l0:Nat->List (S46)->Int->Int->Int->List (S46)->Option (Bool)
 | 0,_,_,_,_,_=>none
 | k+1,lR,mP,mJ,aY,aW=>if mJ<mP then(if 0<=mJ then(if mJ<(lR.length:Int) then(if((aA3 lR mJ).f0)<0 then(some false) else(if((aA3 lR mJ).f0)≥((aA3 lR mJ).f1) then(some false) else(if((aA3 lR mJ).f1)≥aY then(some false) else(aBq.l0 k lR mP (wrap64 (mJ+1)) aY aW)))) else(none)) else(none)) else(some true)
end
def aBq.f (k:Nat) (aD:Int) (aC:List (S46)):Option (Bool):=(aDh.f aD 1 6).bind λaQ=>(if aQ=true then(aBq.j0 k (decide ((aC.length:Int)>12)) aD aC) else(aBq.j0 k true aD aC))
theorem aBq.aBp:∀ k,(∀ y0 y1 y2,LeO (aBq.j0 k y0 y1 y2) (aBq.j0 (k+1) y0 y1 y2))/\(∀ y0 y1 y2 y3 y4,LeO (aBq.l0 k y0 y1 y2 y3 y4) (aBq.l0 (k+1) y0 y1 y2 y3 y4))
 | 0=>⟨λ_ _ _ r h=>by simp[aBq.j0]at h,λ_ _ _ _ _ r h=>by simp[aBq.l0]at h⟩
 | k+1=>by
  obtain⟨ih0,ih1⟩:=aBq.aBp k
  refine⟨?_,?_⟩
  ·intro y0 y1 y2
   unfold aBq.j0
   exact zm1
  ·intro y0 y1 y2 y3 y4
   unfold aBq.l0
   exact zm1
theorem aBq.mono:∀ a0 a1 k,LeO (aBq.f k a0 a1) (aBq.f (k+1) a0 a1):=by
 intro a0 a1 k;obtain⟨ih0,ih1⟩:=aBq.aBp k;unfold aBq.f;exact zm1
theorem aBq.calls (k:Nat) (aD:Int) (aH:Option Addr) (aG:Nat) (aC:List (S46)) (r:Bool) (w:World) (hr0_1:Kd.C k46 w aH aC.length aC) (hc0_1:aC.length<=aG) (h:aBq.f k aD aC=some r) :
  Calls Tryz.prog 50 #[.agg #[.int .i64 aD,.slice aH aC.length aG]] w λe w'=>e = .returned (.bool r)/\Below w.heap.size w w':=by
 have aI5:=Tryz.underlying25;have aV7:=Tryz.underlying46;have b3:=zK_ hr0_1;have bE:=zK_ hc0_1;clear hr0_1 hc0_1;have HB:=zK_ (Below.refl w.heap.size w);have H:((aDh.f aD 1 6).bind λaQ=>(if aQ=true then(aBq.j0 k (decide ((aC.length:Int)>12)) aD aC) else(aBq.j0 k true aD aC)))=some r:=h;clear h;have HC2:=zK_ H;clear H;go_enter Tryz.func50,Tryz.ntmps50;(go_upto_region 1 with (first|((with_reducible refine aAj (N:=1) rfl ?_);(try(refine aC1 (by rfl) ?_;dsimp only));refine aAf ?hg (N:=1) ?hd (cs:=#[.int .i64 aD,.slice aH aC.length aG]) (t:=25) ?hr ?_;(case hd=>rfl);(case hg=>rfl);(case hr=>exact aD9);intro aE hg w3 hbox hb;have n_:=zA4 (aA1 zz2 hb) hbox (aDl:w.heap.size<=aE) (aDl:w.heap.size<=aE);clear HB;obtain⟨HB,aA,aDd,aD2⟩:=n_;clear hb hbox hg)));(try simp only[Act.put,List.setIfInBounds_toArray,List.set_cons_zero,List.set_cons_succ]);go_cut [14] (λv14 wc=>∃ (kq:Nat) (dO:Bool),v14 = .bool dO/\aA2 (aBq.j0 kq dO aD aC=some r)/\aA2 (kq<=k)/\aA2 (wc.heap[aE]? = some (.cells #[.int .i64 aD,(.slice aH aC.length aG)] 25 (0,0)))/\aA2 (Below w.heap.size w wc))
 case first =>
  have H:=HC2.out;clear HC2;obtain⟨aQ,A40,H⟩:=zO_ H;(try dsimp only at H);have A4:=zK_ A40;clear A40;by_cases c5:aQ=true
  ·subst c5;rw[if_pos rfl]at H;have H':=zK_ H;clear H;have j9:=aCe aA;have j8:=aCd aA;have j5:=aA0 aA.out 0;have j4:=aA0 aA.out 1;(go_wp2_with (first|((with_reducible refine aA5 (f:=42) rfl ?_);refine aB8 (some 7) rfl rfl Tryz.func42 (by kernel_rfl) rfl #[.int .i64 aD,.int .i64 1,.int .i64 6] rfl zz3 ?_;(with_reducible refine(aDh.calls aD 1 6 true _ A4.out).mono ?_);rintro e w' ⟨rfl,⟨nd,rfl⟩⟩;refine⟨_,rfl,?_⟩)));(go_meet);case rel=>exact⟨_,(decide ((aC.length:Int)>12)),zz6,H',⟨by first|omega|exact Nat.le_refl _⟩,⟨zz1⟩,⟨zz0⟩⟩
  replace c5:=zdB c5;subst c5;rw[if_neg (show ¬ (false=true) by decide)]at H;have H':=zK_ H;clear H;have gO:=aCe aA;have gN:=aCd aA;have gM:=aA0 aA.out 0;have gK:=aA0 aA.out 1;(go_wp2_with (first|((with_reducible refine aA5 (f:=42) rfl ?_);refine aB8 (some 7) rfl rfl Tryz.func42 (by kernel_rfl) rfl #[.int .i64 aD,.int .i64 1,.int .i64 6] rfl zz3 ?_;(with_reducible refine(aDh.calls aD 1 6 false _ A4.out).mono ?_);rintro e w' ⟨rfl,⟨nd,rfl⟩⟩;refine⟨_,rfl,?_⟩)));(go_meet);case rel=>exact⟨_,(true),zz6,H',⟨by first|omega|exact Nat.le_refl _⟩,⟨zz1⟩,⟨zz0⟩⟩
 case rest =>
  clear HC2;(try clear p2);(try clear c4);(try clear c5);(try clear j9);(try clear j8);(try clear gO);(try clear gN);(try clear j5);(try clear j4);(try clear gM);(try clear gK);obtain⟨kq,dO,rfl,HA,HJ1,aA,HB⟩:=hcut
  cases kq with
  | zero=>exact absurd HA.out (by simp[aBq.j0])
  | succ kj1 =>
   have H:=HA.out;clear HA;simp only[aBq.j0]at H;by_cases c8:dO=true
   ·subst c8;rw[if_pos rfl]at H;obtain rfl:=zdI H;go_wp2;go_ret;exact⟨zz7,zz0⟩
   replace c8:=zdB c8;subst c8;rw[if_neg (show ¬ (false=true) by decide)]at H;have H':=zK_ H;clear H;have g6:=aCe aA;have g5:=aCd aA;have g4:=aA0 aA.out 0;have g3:=aA0 aA.out 1;go_wp2;(go_loopg [18] kj1 (λkq v18 w'=>∃ (cR:Int),v18 = .int .i64 cR/\aA2 (aBq.l0 kq aC (aC.length:Int) cR aD aC=some r)/\aA2 (kq<=kj1)/\aA2 (w'.heap[aE]? = some (.cells #[.int .i64 aD,(.slice aH aC.length aG)] 25 (0,0)))/\aA2 (Below w.heap.size w w')));case atStart=>exact⟨(0),zz6,H',⟨Nat.le_refl _⟩,⟨zz1⟩,⟨zz0⟩⟩
   case round =>
    clear H';(try clear p2);(try clear c4);(try clear c5);(try clear c8);(try clear j9);(try clear j8);(try clear gO);(try clear gN);(try clear g6);(try clear g5);(try clear j5);(try clear j4);(try clear gM);(try clear gK);(try clear g4);(try clear g3);(try clear p2);obtain⟨cR,rfl,HA,HK2,aA,HB⟩:=hrel
    cases gk with
    | zero=>exact absurd HA.out (by simp[aBq.l0])
    | succ k2 =>
     have H:=HA.out;clear HA;simp only[aBq.l0]at H;by_cases c10:cR<(aC.length:Int);rotate_left
     ·rw[if_neg c10]at H;have fV:=zdN c10;clear c10;obtain rfl:=zdI H;go_wp2;go_ret;exact⟨zz7,zz0⟩
     rw[if_pos c10]at H;have fV:=zdY c10;clear c10;by_cases c11:0<=cR;rotate_left
     ·rw[if_neg c11]at H;exact absurd H (by simp)
     rw[if_pos c11]at H;have nJ:=zdY c11;clear c11;by_cases c12:cR<(aC.length:Int);rotate_left
     ·rw[if_neg c12]at H;exact absurd H (by simp)
     rw[if_pos c12]at H;have nI:=zdY c12;clear c12;by_cases c13:((aA3 aC cR).f0)<0
     ·rw[if_pos c13]at H;have jU:=zdY c13;clear c13;obtain rfl:=zdI H;have aEv:0<=(cR:Int):=zdT zz4;have aEu:cR<(aC.length:Int):=zdT zz4;obtain⟨bX,aH7,aZ,bR⟩:=aDo b3.out cR aEv aEu;cases aH7;replace aZ:=(HB.out.cell (World.block_lt_of_cell? w _ aZ)).trans aZ;replace bR:=(HB.out.cell (World.block_lt_of_cell? w _ bR)).trans bR;replace aEv:=eq_true aEv;replace aEu:=eq_true aEu;(go_wp2_with (first|((with_reducible refine aAj (N:=4) rfl ?_);(try(refine aC1 (by rfl) ?_;dsimp only));refine aAf ?hg (N:=4) ?hd (cs:=#[.int .i64 0,.int .i64 0]) (t:=46) ?hr ?_;(case hd=>rfl);(case hg=>rfl);(case hr=>exact aD9);intro bB hg w14 hbox hb;have n_:=zA7 (aA4 (g:=aE) (o:=.cells #[.int .i64 aD,.slice (some bX) aC.length aG] 25 (0,0)) zz1 hb) (aA1 zz0 hb) hbox (aFw:w.heap.size<=bB) (aFw:w.heap.size<=bB) (aS7:aE≠bB) (aS6:bB≠aE);clear aA HB;obtain⟨aA,HB,bH,aL5,aKb,b7,b9⟩:=n_;clear hb hbox hg;have P1:=b9.out;have OY:=b7.out;have nC:=aCe bH;have nB:=aCd bH;have m6:=aA0 bH.out 0;have m5:=aA0 bH.out 1)));go_ret;exact⟨zz7,aO6⟩
     rw[if_neg c13]at H;have jU:=zdN c13;clear c13;by_cases c17:((aA3 aC cR).f0)≥((aA3 aC cR).f1)
     ·rw[if_pos c17]at H;have oI:decide (((aA3 aC cR).f1)<=((aA3 aC cR).f0))=true:=zdY c17;clear c17;obtain rfl:=zdI H;have aEv:0<=(cR:Int):=zdT zz4;have aEu:cR<(aC.length:Int):=zdT zz4;obtain⟨bX,aH7,aZ,bR⟩:=aDo b3.out cR aEv aEu;cases aH7;replace aZ:=(HB.out.cell (World.block_lt_of_cell? w _ aZ)).trans aZ;replace bR:=(HB.out.cell (World.block_lt_of_cell? w _ bR)).trans bR;replace aEv:=eq_true aEv;replace aEu:=eq_true aEu;(go_wp2_with (first|((with_reducible refine aAj (N:=4) rfl ?_);(try(refine aC1 (by rfl) ?_;dsimp only));refine aAf ?hg (N:=4) ?hd (cs:=#[.int .i64 0,.int .i64 0]) (t:=46) ?hr ?_;(case hd=>rfl);(case hg=>rfl);(case hr=>exact aD9);intro bB hg w18 hbox hb;have n_:=zA7 (aA4 (g:=aE) (o:=.cells #[.int .i64 aD,.slice (some bX) aC.length aG] 25 (0,0)) zz1 hb) (aA1 zz0 hb) hbox (aFw:w.heap.size<=bB) (aFw:w.heap.size<=bB) (aS7:aE≠bB) (aS6:bB≠aE);clear aA HB;obtain⟨aA,HB,bH,aL5,aKb,b7,b9⟩:=n_;clear hb hbox hg;have yP:=b9.out;have yM:=b7.out;have pC:=aCe bH;have pA:=aCd bH;have o1:=aA0 bH.out 0;have o0:=aA0 bH.out 1)));go_ret;exact⟨zz7,aO6⟩
     rw[if_neg c17]at H;have oI:decide (((aA3 aC cR).f1)<=((aA3 aC cR).f0))=false:=zdN c17;clear c17;by_cases c21:((aA3 aC cR).f1)≥aD
     ·rw[if_pos c21]at H;have pM:decide (aD<=((aA3 aC cR).f1))=true:=zdY c21;clear c21;obtain rfl:=zdI H;have aEv:0<=(cR:Int):=zdT zz4;have aEu:cR<(aC.length:Int):=zdT zz4;obtain⟨bX,aH7,aZ,bR⟩:=aDo b3.out cR aEv aEu;cases aH7;replace aZ:=(HB.out.cell (World.block_lt_of_cell? w _ aZ)).trans aZ;replace bR:=(HB.out.cell (World.block_lt_of_cell? w _ bR)).trans bR;replace aEv:=eq_true aEv;replace aEu:=eq_true aEu;(go_wp2_with (first|((with_reducible refine aAj (N:=4) rfl ?_);(try(refine aC1 (by rfl) ?_;dsimp only));refine aAf ?hg (N:=4) ?hd (cs:=#[.int .i64 0,.int .i64 0]) (t:=46) ?hr ?_;(case hd=>rfl);(case hg=>rfl);(case hr=>exact aD9);intro bB hg w22 hbox hb;have n_:=zA7 (aA4 (g:=aE) (o:=.cells #[.int .i64 aD,.slice (some bX) aC.length aG] 25 (0,0)) zz1 hb) (aA1 zz0 hb) hbox (aFw:w.heap.size<=bB) (aFw:w.heap.size<=bB) (aS7:aE≠bB) (aS6:bB≠aE);clear aA HB;obtain⟨aA,HB,bH,aL5,aKb,b7,b9⟩:=n_;clear hb hbox hg;have PY:=b9.out;have OV:=b7.out;have mC:=aCe bH;have mB:=aCd bH;have l6:=aA0 bH.out 0;have l5:=aA0 bH.out 1;have i6:=aCe aA;have i5:=aCd aA;have iV:=aA0 aA.out 0;have iU:=aA0 aA.out 1)));go_ret;exact⟨zz7,aO6⟩
     rw[if_neg c21]at H;have pM:decide (aD<=((aA3 aC cR).f1))=false:=zdN c21;clear c21;have H':=zK_ H;clear H;have aEv:0<=(cR:Int):=zdT zz4;have aEu:cR<(aC.length:Int):=zdT zz4;obtain⟨bX,aH7,aZ,bR⟩:=aDo b3.out cR aEv aEu;cases aH7;replace aZ:=(HB.out.cell (World.block_lt_of_cell? w _ aZ)).trans aZ;replace bR:=(HB.out.cell (World.block_lt_of_cell? w _ bR)).trans bR;replace aEv:=eq_true aEv;replace aEu:=eq_true aEu;(go_wp2_with (first|((with_reducible refine aAj (N:=4) rfl ?_);(try(refine aC1 (by rfl) ?_;dsimp only));refine aAf ?hg (N:=4) ?hd (cs:=#[.int .i64 0,.int .i64 0]) (t:=46) ?hr ?_;(case hd=>rfl);(case hg=>rfl);(case hr=>exact aD9);intro bB hg w26 hbox hb;have n_:=zA7 (aA4 (g:=aE) (o:=.cells #[.int .i64 aD,.slice (some bX) aC.length aG] 25 (0,0)) zz1 hb) (aA1 zz0 hb) hbox (aFw:w.heap.size<=bB) (aFw:w.heap.size<=bB) (aS7:aE≠bB) (aS6:bB≠aE);clear aA HB;obtain⟨aA,HB,bH,aL5,aKb,b7,b9⟩:=n_;clear hb hbox hg;have BX:=b9.out;have BG:=b7.out;have uK:=aCe bH;have uJ:=aCd bH;have t7:=aA0 bH.out 0;have t6:=aA0 bH.out 1;have nA:=aCe aA;have m9:=aCd aA;have m4:=aA0 aA.out 0;have m3:=aA0 aA.out 1)));go_roundg k2;(case measure=>have:=HJ1.out;have:=HK2.out;omega);case rel=>exact⟨(wrap64 (cR+1)),zz6,H',⟨by have:=HJ1.out;have:=HK2.out;omega⟩,⟨bAy⟩,⟨aO6⟩⟩
mutual
def aAy.l0:Nat->Int->List (S46)->Int->Int->Int->Option (Bool)
 | 0,_,_,_,_,_=>none
 | k+1,x0,x1,x5,x8,x9=>if x9<x8 then(aAy.l1 k x0 x1 x5 x8 x9 x1 (x1.length:Int) 0) else(if 0<=x0 then(some (x5==(wrap64 ((shl .i64 1 x0)-1)))) else(none))
def aAy.l1:Nat->Int->List (S46)->Int->Int->Int->List (S46)->Int->Int->Option (Bool)
 | 0,_,_,_,_,_,_,_,_=>none
 | k+1,x0,x1,x5,x8,x9,eZ,nE,jC=>if jC<nE then(if 0<=jC then(if jC<(eZ.length:Int) then(if 0<=((aA3 eZ jC).f0) then(if(Go.bits .and .i64 (shr .i64 x5 ((aA3 eZ jC).f0)) 1)=1 then(if 0<=((aA3 eZ jC).f1) then(aAy.l1 k x0 x1 (Go.bits .or .i64 x5 (Go.bits .or .i64 (shl .i64 1 ((aA3 eZ jC).f0)) (shl .i64 1 ((aA3 eZ jC).f1)))) x8 x9 eZ nE (wrap64 (jC+1))) else(none)) else(if 0<=((aA3 eZ jC).f1) then(if(Go.bits .and .i64 (shr .i64 x5 ((aA3 eZ jC).f1)) 1)=1 then(aAy.l1 k x0 x1 (Go.bits .or .i64 x5 (Go.bits .or .i64 (shl .i64 1 ((aA3 eZ jC).f0)) (shl .i64 1 ((aA3 eZ jC).f1)))) x8 x9 eZ nE (wrap64 (jC+1))) else(aAy.l1 k x0 x1 x5 x8 x9 eZ nE (wrap64 (jC+1)))) else(none))) else(none)) else(none)) else(none)) else(aAy.l0 k x0 x1 x5 x8 (wrap64 (x9+1)))
end
def aAy.f (k:Nat) (a0:Int) (l1:List (S46)):Option (Bool):=aAy.l0 k a0 l1 1 a0 0
theorem aAy.aBp:∀ k,(∀ y0 y1 y2 y3 y4,LeO (aAy.l0 k y0 y1 y2 y3 y4) (aAy.l0 (k+1) y0 y1 y2 y3 y4))/\(∀ y0 y1 y2 y3 y4 y5 y6 y7,LeO (aAy.l1 k y0 y1 y2 y3 y4 y5 y6 y7) (aAy.l1 (k+1) y0 y1 y2 y3 y4 y5 y6 y7))
 | 0=>⟨λ_ _ _ _ _ r h=>by simp[aAy.l0]at h,λ_ _ _ _ _ _ _ _ r h=>by simp[aAy.l1]at h⟩
 | k+1=>by
  obtain⟨ih0,ih1⟩:=aAy.aBp k
  refine⟨?_,?_⟩
  ·intro y0 y1 y2 y3 y4
   unfold aAy.l0
   exact zm1
  ·intro y0 y1 y2 y3 y4 y5 y6 y7
   unfold aAy.l1
   exact zm1
theorem aAy.mono:∀ a0 a1 k,LeO (aAy.f k a0 a1) (aAy.f (k+1) a0 a1):=by
 intro a0 a1 k;obtain⟨ih0,ih1⟩:=aAy.aBp k;unfold aAy.f;exact zm1
theorem aAy.calls (k:Nat) (a0:Int) (A1:Option Addr) (c1:Nat) (l1:List (S46)) (r:Bool) (w:World) (hr1:Kd.C k46 w A1 l1.length l1) (hc1:l1.length<=c1) (h:aAy.f k a0 l1=some r) :
  Calls Tryz.prog 53 #[.int .i64 a0,.slice A1 l1.length c1] w λe w'=>e = .returned (.bool r)/\Below w.heap.size w w':=by
 have aV7:=Tryz.underlying46;have HR1:=zK_ hr1;have HC1:=zK_ hc1;clear hr1 hc1;have HB:=zK_ (Below.refl w.heap.size w);have H:(aAy.l0 k a0 l1 1 a0 0)=some r:=h;clear h;have H':=zK_ H;clear H;go_enter Tryz.func53,Tryz.ntmps53;go_wp2;(repeat(go_quiet (fail);try go_wp2));(go_loopg [5,9] k (λkq v5 v9 w'=>∃ (iP:Int) (bV:Int),v5 = .int .i64 iP/\v9 = .int .i64 bV/\aA2 (aAy.l0 kq a0 l1 iP a0 bV=some r)/\aA2 (kq<=k)/\aA2 (Below w.heap.size w w')));case atStart=>exact⟨(1),(0),zz6,zz6,H',⟨Nat.le_refl _⟩,⟨zz2⟩⟩
 case round =>
  clear H';(try clear c1);(try clear p2);obtain⟨iP,bV,rfl,rfl,HA,HK1,HB⟩:=hrel
  cases gk with
  | zero=>exact absurd HA.out (by simp[aAy.l0])
  | succ k1 =>
   have H:=HA.out;clear HA;simp only[aAy.l0]at H;by_cases c3:bV<a0;rotate_left
   ·rw[if_neg c3]at H;have gX:=zdN c3;clear c3;by_cases c27:0<=a0;rotate_left
    ·rw[if_neg c27]at H;exact absurd H (by simp)
    rw[if_pos c27]at H;have wR:=eq_true c27;have yU:decide (0<=a0)=true:=zdY c27;clear c27;obtain⟨sQ,rM⟩:∃ j_:Int,(shl .i64 1 a0)=j_:=⟨_,rfl⟩;(replace H:(some (iP==(wrap64 ((sQ)-1))))=some r:=by first|(rw[rM]at H;exact H)|(simp only[rM]at H ⊢;exact H));have vU:(IntKind.i64.wrap (1*2^min a0.toNat 64))=sQ:=rM;have vT:a0<=64->(IntKind.i64.wrap (1*2^a0.toNat))=sQ:=aH0 rM;(have LW:(IntKind.i64.wrap (2^min a0.toNat 64))=sQ:=by have h_:=vU;rw[Int.one_mul]at h_;exact h_);(have LV:a0<=64->(IntKind.i64.wrap (2^a0.toNat))=sQ:=λaTf=>by have h_:=vT aTf;rw[Int.one_mul]at h_;exact h_);have LT:(wrap64 (1*2^min a0.toNat 64))=sQ:=(aFm _).symm.trans vU;(have LU:a0<=64->(wrap64 (1*2^a0.toNat))=sQ:=λh_=>(aFm _).symm.trans (vT h_));obtain rfl:=zdI H;go_wp2;(repeat(go_quiet (fail);try go_wp2));go_ret;exact⟨by first|rfl|(simp[aDs,aDr]<;>rfl)|(simp only[<-rM];first|rfl|(simp[aDs,aDr]<;>rfl))|(simp[*,aDs,aDr]<;>rfl),zz2⟩
   rw[if_pos c3]at H;have gX:=zdY c3;clear c3;have H':=zK_ H;clear H;go_wp2;(repeat(go_quiet (fail);try go_wp2));(go_loopg [5,13] k1 (λkq v5 v13 w'=>∃ (dY:Int) (bS:Int),v5 = .int .i64 dY/\v13 = .int .i64 bS/\aA2 (aAy.l1 kq a0 l1 dY a0 bV l1 (l1.length:Int) bS=some r)/\aA2 (kq<=k1)/\aA2 (Below w.heap.size w w')));case atStart=>exact⟨(iP),(0),zz6,zz6,H',⟨Nat.le_refl _⟩,⟨zz2⟩⟩
   case round =>
    clear H';(try clear c1);(try clear p2);(try clear c3);(try clear gX);(try clear p2);obtain⟨dY,bS,rfl,rfl,HA,HK2,HB⟩:=hrel
    cases gk with
    | zero=>exact absurd HA.out (by simp[aAy.l1])
    | succ k2 =>
     have H:=HA.out;clear HA;simp only[aAy.l1]at H;by_cases c4:bS<(l1.length:Int);rotate_left
     ·rw[if_neg c4]at H;have gW:=zdN c4;clear c4;have H':=zK_ H;clear H;go_wp2;(repeat(go_quiet (fail);try go_wp2));go_roundg k2;(case measure=>have:=HK1.out;have:=HK2.out;omega);case rel=>exact⟨(dY),(wrap64 (bV+1)),zz6,zz6,H',⟨aM9⟩,⟨zz2⟩⟩
     rw[if_pos c4]at H;have gW:=zdY c4;clear c4;by_cases c5:0<=bS;rotate_left
     ·rw[if_neg c5]at H;exact absurd H (by simp)
     rw[if_pos c5]at H;have fD:=zdY c5;clear c5;by_cases c6:bS<(l1.length:Int);rotate_left
     ·rw[if_neg c6]at H;exact absurd H (by simp)
     rw[if_pos c6]at H;have iO:=zdY c6;clear c6;by_cases c7:0<=((aA3 l1 bS).f0);rotate_left
     ·rw[if_neg c7]at H;exact absurd H (by simp)
     rw[if_pos c7]at H;have gT:=eq_true c7;have yG:decide (0<=((aA3 l1 bS).f0))=true:=zdY c7;clear c7;obtain⟨tK,rI⟩:∃ j_:Int,(shr .i64 dY ((aA3 l1 bS).f0))=j_:=⟨_,rfl⟩;(replace H:(if(Go.bits .and .i64 (tK) 1)=1 then(if 0<=((aA3 l1 bS).f1) then(aAy.l1 k2 a0 l1 (Go.bits .or .i64 dY (Go.bits .or .i64 (shl .i64 1 ((aA3 l1 bS).f0)) (shl .i64 1 ((aA3 l1 bS).f1)))) a0 bV l1 (l1.length:Int) (wrap64 (bS+1))) else(none)) else(if 0<=((aA3 l1 bS).f1) then(if(Go.bits .and .i64 (shr .i64 dY ((aA3 l1 bS).f1)) 1)=1 then(aAy.l1 k2 a0 l1 (Go.bits .or .i64 dY (Go.bits .or .i64 (shl .i64 1 ((aA3 l1 bS).f0)) (shl .i64 1 ((aA3 l1 bS).f1)))) a0 bV l1 (l1.length:Int) (wrap64 (bS+1))) else(aAy.l1 k2 a0 l1 dY a0 bV l1 (l1.length:Int) (wrap64 (bS+1)))) else(none)))=some r:=by first|(rw[rI]at H;exact H)|(simp only[rI]at H ⊢;exact H));have B0:(dY/2^min ((aA3 l1 bS).f0).toNat 64)=tK:=rI;have P2:((aA3 l1 bS).f0)<=64->(dY/2^((aA3 l1 bS).f0).toNat)=tK:=aKj rI;by_cases c9:(Go.bits .and .i64 (tK) 1)=1
     ·rw[if_pos c9]at H;have iN:((Go.bits .and .i64 (tK) 1)==1)=true:=beq_iff_eq.mpr c9;have wP:((Go.bits .and .i64 (tK) 1) != 1)=false:=bne_eq_false_iff_eq.mpr c9;clear c9;have fV:=eq_true (zdT zz4:0<=((aA3 l1 bS).f0));obtain⟨qP,rQ⟩:∃ j_:Int,(shl .i64 1 ((aA3 l1 bS).f0))=j_:=⟨_,rfl⟩;(replace H:(if 0<=((aA3 l1 bS).f1) then(aAy.l1 k2 a0 l1 (Go.bits .or .i64 dY (Go.bits .or .i64 (qP) (shl .i64 1 ((aA3 l1 bS).f1)))) a0 bV l1 (l1.length:Int) (wrap64 (bS+1))) else(none))=some r:=by first|(rw[rQ]at H;exact H)|(simp only[rQ]at H ⊢;exact H));have wJ:(IntKind.i64.wrap (1*2^min ((aA3 l1 bS).f0).toNat 64))=qP:=rQ;have wI:((aA3 l1 bS).f0)<=64->(IntKind.i64.wrap (1*2^((aA3 l1 bS).f0).toNat))=qP:=aH0 rQ;(have MN:(IntKind.i64.wrap (2^min ((aA3 l1 bS).f0).toNat 64))=qP:=by have h_:=wJ;rw[Int.one_mul]at h_;exact h_);(have MM:((aA3 l1 bS).f0)<=64->(IntKind.i64.wrap (2^((aA3 l1 bS).f0).toNat))=qP:=λaTf=>by have h_:=wI aTf;rw[Int.one_mul]at h_;exact h_);have MK:(wrap64 (1*2^min ((aA3 l1 bS).f0).toNat 64))=qP:=(aFm _).symm.trans wJ;(have ML:((aA3 l1 bS).f0)<=64->(wrap64 (1*2^((aA3 l1 bS).f0).toNat))=qP:=λh_=>(aFm _).symm.trans (wI h_));by_cases c12:0<=((aA3 l1 bS).f1);rotate_left
      ·rw[if_neg c12]at H;exact absurd H (by simp)
      rw[if_pos c12]at H;have nI:=eq_true c12;have sB:decide (0<=((aA3 l1 bS).f1))=true:=zdY c12;clear c12;obtain⟨rD,rP⟩:∃ j_:Int,(shl .i64 1 ((aA3 l1 bS).f1))=j_:=⟨_,rfl⟩;(replace H:(aAy.l1 k2 a0 l1 (Go.bits .or .i64 dY (Go.bits .or .i64 (qP) (rD))) a0 bV l1 (l1.length:Int) (wrap64 (bS+1)))=some r:=by first|(rw[rP]at H;exact H)|(simp only[rP]at H ⊢;exact H));have wH:(IntKind.i64.wrap (1*2^min ((aA3 l1 bS).f1).toNat 64))=rD:=rP;have wG:((aA3 l1 bS).f1)<=64->(IntKind.i64.wrap (1*2^((aA3 l1 bS).f1).toNat))=rD:=aH0 rP;(have MG:(IntKind.i64.wrap (2^min ((aA3 l1 bS).f1).toNat 64))=rD:=by have h_:=wH;rw[Int.one_mul]at h_;exact h_);(have MF:((aA3 l1 bS).f1)<=64->(IntKind.i64.wrap (2^((aA3 l1 bS).f1).toNat))=rD:=λaTf=>by have h_:=wG aTf;rw[Int.one_mul]at h_;exact h_);have MD:(wrap64 (1*2^min ((aA3 l1 bS).f1).toNat 64))=rD:=(aFm _).symm.trans wH;(have ME:((aA3 l1 bS).f1)<=64->(wrap64 (1*2^((aA3 l1 bS).f1).toNat))=rD:=λh_=>(aFm _).symm.trans (wG h_));have H':=zK_ H;clear H;have aDu:0<=(bS:Int):=zdT zz4;have aDt:bS<(l1.length:Int):=zdT zz4;obtain⟨d7,aFt,bM,jM⟩:=aDo HR1.out bS aDu aDt;cases aFt;replace bM:=(HB.out.cell (World.block_lt_of_cell? w _ bM)).trans bM;replace jM:=(HB.out.cell (World.block_lt_of_cell? w _ jM)).trans jM;replace aDu:=eq_true aDu;replace aDt:=eq_true aDt;(go_wp2_with (first|((with_reducible refine aAj (N:=7) rfl ?_);refine aAf ?hg (N:=7) ?hd (cs:=#[.int .i64 0,.int .i64 0]) (t:=46) ?hr ?_;(case hd=>rfl);(case hg=>rfl);(case hr=>exact aD9);intro aU hg w14 hbox hb;have n_:=zA4 (aA1 zz2 hb) hbox (aDl:w.heap.size<=aU) (aDl:w.heap.size<=aU);clear HB;obtain⟨HB,aI,aGo,aFv⟩:=n_;clear hb hbox hg;have fR:=aCe aI;have fQ:=aCd aI;have fP:=aA0 aI.out 0;have fO:=aA0 aI.out 1)));(repeat(go_quiet (first|((with_reducible refine aAj (N:=7) rfl ?_);refine aAf ?hg (N:=7) ?hd (cs:=#[.int .i64 0,.int .i64 0]) (t:=46) ?hr ?_;(case hd=>rfl);(case hg=>rfl);(case hr=>exact aD9);intro aU hg w14 hbox hb;have n_:=zA4 (aA1 zz2 hb) hbox (aDl:w.heap.size<=aU) (aDl:w.heap.size<=aU);clear HB;obtain⟨HB,aI,aGo,aFv⟩:=n_;clear hb hbox hg;have fR:=aCe aI;have fQ:=aCd aI;have fP:=aA0 aI.out 0;have fO:=aA0 aI.out 1));try go_wp2_with (first|((with_reducible refine aAj (N:=7) rfl ?_);refine aAf ?hg (N:=7) ?hd (cs:=#[.int .i64 0,.int .i64 0]) (t:=46) ?hr ?_;(case hd=>rfl);(case hg=>rfl);(case hr=>exact aD9);intro aU hg w14 hbox hb;have n_:=zA4 (aA1 zz2 hb) hbox (aDl:w.heap.size<=aU) (aDl:w.heap.size<=aU);clear HB;obtain⟨HB,aI,aGo,aFv⟩:=n_;clear hb hbox hg;have fR:=aCe aI;have fQ:=aCd aI;have fP:=aA0 aI.out 0;have fO:=aA0 aI.out 1))));go_roundg k2;(case measure=>have:=HK1.out;have:=HK2.out;omega);case rel=>exact⟨(Go.bits .or .i64 dY (Go.bits .or .i64 (qP) (rD))),(wrap64 (bS+1)),(by first|rfl|(simp;done)|(simp only[<-rQ,<-rP]<;>(first|rfl|simp))|(simp[*];done)),zz6,H',⟨aM9⟩,⟨bBf⟩⟩
     rw[if_neg c9]at H;have iN:((Go.bits .and .i64 (tK) 1)==1)=false:=beq_eq_false_iff_ne.mpr c9;have wP:((Go.bits .and .i64 (tK) 1) != 1)=true:=bne_iff_ne.mpr c9;by_cases c16:0<=((aA3 l1 bS).f1);rotate_left
     ·rw[if_neg c16]at H;exact absurd H (by simp)
     rw[if_pos c16]at H;have mS:=eq_true c16;have uT:decide (0<=((aA3 l1 bS).f1))=true:=zdY c16;clear c16;obtain⟨fB,jO⟩:∃ j_:Int,(shr .i64 dY ((aA3 l1 bS).f1))=j_:=⟨_,rfl⟩;(replace H:(if(Go.bits .and .i64 (fB) 1)=1 then(aAy.l1 k2 a0 l1 (Go.bits .or .i64 dY (Go.bits .or .i64 (shl .i64 1 ((aA3 l1 bS).f0)) (shl .i64 1 ((aA3 l1 bS).f1)))) a0 bV l1 (l1.length:Int) (wrap64 (bS+1))) else(aAy.l1 k2 a0 l1 dY a0 bV l1 (l1.length:Int) (wrap64 (bS+1))))=some r:=by first|(rw[jO]at H;exact H)|(simp only[jO]at H ⊢;exact H));have qW:(dY/2^min ((aA3 l1 bS).f1).toNat 64)=fB:=jO;have sV:((aA3 l1 bS).f1)<=64->(dY/2^((aA3 l1 bS).f1).toNat)=fB:=aKj jO;by_cases c18:(Go.bits .and .i64 (fB) 1)=1;rotate_left
     ·rw[if_neg c18]at H;have oH:((Go.bits .and .i64 (fB) 1)==1)=false:=beq_eq_false_iff_ne.mpr c18;have uS:((Go.bits .and .i64 (fB) 1) != 1)=true:=bne_iff_ne.mpr c18;have H':=zK_ H;clear H;have aDu:0<=(bS:Int):=zdT zz4;have aDt:bS<(l1.length:Int):=zdT zz4;obtain⟨d7,aFt,bM,jM⟩:=aDo HR1.out bS aDu aDt;cases aFt;replace bM:=(HB.out.cell (World.block_lt_of_cell? w _ bM)).trans bM;replace jM:=(HB.out.cell (World.block_lt_of_cell? w _ jM)).trans jM;replace aDu:=eq_true aDu;replace aDt:=eq_true aDt;(go_wp2_with (first|((with_reducible refine aAj (N:=7) rfl ?_);refine aAf ?hg (N:=7) ?hd (cs:=#[.int .i64 0,.int .i64 0]) (t:=46) ?hr ?_;(case hd=>rfl);(case hg=>rfl);(case hr=>exact aD9);intro aU hg w25 hbox hb;have n_:=zA4 (aA1 zz2 hb) hbox (aDl:w.heap.size<=aU) (aDl:w.heap.size<=aU);clear HB;obtain⟨HB,aI,aGo,aFv⟩:=n_;clear hb hbox hg;have n5:=aCe aI;have n4:=aCd aI;have nW:=aA0 aI.out 0;have nV:=aA0 aI.out 1)));(repeat(go_quiet (first|((with_reducible refine aAj (N:=7) rfl ?_);refine aAf ?hg (N:=7) ?hd (cs:=#[.int .i64 0,.int .i64 0]) (t:=46) ?hr ?_;(case hd=>rfl);(case hg=>rfl);(case hr=>exact aD9);intro aU hg w25 hbox hb;have n_:=zA4 (aA1 zz2 hb) hbox (aDl:w.heap.size<=aU) (aDl:w.heap.size<=aU);clear HB;obtain⟨HB,aI,aGo,aFv⟩:=n_;clear hb hbox hg;have n5:=aCe aI;have n4:=aCd aI;have nW:=aA0 aI.out 0;have nV:=aA0 aI.out 1));try go_wp2_with (first|((with_reducible refine aAj (N:=7) rfl ?_);refine aAf ?hg (N:=7) ?hd (cs:=#[.int .i64 0,.int .i64 0]) (t:=46) ?hr ?_;(case hd=>rfl);(case hg=>rfl);(case hr=>exact aD9);intro aU hg w25 hbox hb;have n_:=zA4 (aA1 zz2 hb) hbox (aDl:w.heap.size<=aU) (aDl:w.heap.size<=aU);clear HB;obtain⟨HB,aI,aGo,aFv⟩:=n_;clear hb hbox hg;have n5:=aCe aI;have n4:=aCd aI;have nW:=aA0 aI.out 0;have nV:=aA0 aI.out 1))));go_roundg k2;(case measure=>have:=HK1.out;have:=HK2.out;omega);case rel=>exact⟨(dY),(wrap64 (bS+1)),zz6,zz6,H',⟨aM9⟩,⟨bBf⟩⟩
     rw[if_pos c18]at H;have oH:((Go.bits .and .i64 (fB) 1)==1)=true:=beq_iff_eq.mpr c18;have uS:((Go.bits .and .i64 (fB) 1) != 1)=false:=bne_eq_false_iff_eq.mpr c18;clear c18;have FB:=eq_true (zdT zz4:0<=((aA3 l1 bS).f0));obtain⟨qO,rO⟩:∃ j_:Int,(shl .i64 1 ((aA3 l1 bS).f0))=j_:=⟨_,rfl⟩;(replace H:(aAy.l1 k2 a0 l1 (Go.bits .or .i64 dY (Go.bits .or .i64 (qO) (shl .i64 1 ((aA3 l1 bS).f1)))) a0 bV l1 (l1.length:Int) (wrap64 (bS+1)))=some r:=by first|(rw[rO]at H;exact H)|(simp only[rO]at H ⊢;exact H));have wD:(IntKind.i64.wrap (1*2^min ((aA3 l1 bS).f0).toNat 64))=qO:=rO;have vZ:((aA3 l1 bS).f0)<=64->(IntKind.i64.wrap (1*2^((aA3 l1 bS).f0).toNat))=qO:=aH0 rO;(have L6:(IntKind.i64.wrap (2^min ((aA3 l1 bS).f0).toNat 64))=qO:=by have h_:=wD;rw[Int.one_mul]at h_;exact h_);(have L5:((aA3 l1 bS).f0)<=64->(IntKind.i64.wrap (2^((aA3 l1 bS).f0).toNat))=qO:=λaTf=>by have h_:=vZ aTf;rw[Int.one_mul]at h_;exact h_);have L3:(wrap64 (1*2^min ((aA3 l1 bS).f0).toNat 64))=qO:=(aFm _).symm.trans wD;(have L4:((aA3 l1 bS).f0)<=64->(wrap64 (1*2^((aA3 l1 bS).f0).toNat))=qO:=λh_=>(aFm _).symm.trans (vZ h_));have pM:=eq_true (zdT zz4:0<=((aA3 l1 bS).f1));obtain⟨rC,rN⟩:∃ j_:Int,(shl .i64 1 ((aA3 l1 bS).f1))=j_:=⟨_,rfl⟩;(replace H:(aAy.l1 k2 a0 l1 (Go.bits .or .i64 dY (Go.bits .or .i64 (qO) (rC))) a0 bV l1 (l1.length:Int) (wrap64 (bS+1)))=some r:=by first|(rw[rN]at H;exact H)|(simp only[rN]at H ⊢;exact H));have vY:(IntKind.i64.wrap (1*2^min ((aA3 l1 bS).f1).toNat 64))=rC:=rN;have vX:((aA3 l1 bS).f1)<=64->(IntKind.i64.wrap (1*2^((aA3 l1 bS).f1).toNat))=rC:=aH0 rN;(have L2:(IntKind.i64.wrap (2^min ((aA3 l1 bS).f1).toNat 64))=rC:=by have h_:=vY;rw[Int.one_mul]at h_;exact h_);(have L1:((aA3 l1 bS).f1)<=64->(IntKind.i64.wrap (2^((aA3 l1 bS).f1).toNat))=rC:=λaTf=>by have h_:=vX aTf;rw[Int.one_mul]at h_;exact h_);have LZ:(wrap64 (1*2^min ((aA3 l1 bS).f1).toNat 64))=rC:=(aFm _).symm.trans vY;(have L0:((aA3 l1 bS).f1)<=64->(wrap64 (1*2^((aA3 l1 bS).f1).toNat))=rC:=λh_=>(aFm _).symm.trans (vX h_));have H':=zK_ H;clear H;have aDu:0<=(bS:Int):=zdT zz4;have aDt:bS<(l1.length:Int):=zdT zz4;obtain⟨d7,aFt,bM,jM⟩:=aDo HR1.out bS aDu aDt;cases aFt;replace bM:=(HB.out.cell (World.block_lt_of_cell? w _ bM)).trans bM;replace jM:=(HB.out.cell (World.block_lt_of_cell? w _ jM)).trans jM;replace aDu:=eq_true aDu;replace aDt:=eq_true aDt;(go_wp2_with (first|((with_reducible refine aAj (N:=7) rfl ?_);refine aAf ?hg (N:=7) ?hd (cs:=#[.int .i64 0,.int .i64 0]) (t:=46) ?hr ?_;(case hd=>rfl);(case hg=>rfl);(case hr=>exact aD9);intro aU hg w23 hbox hb;have n_:=zA4 (aA1 zz2 hb) hbox (aDl:w.heap.size<=aU) (aDl:w.heap.size<=aU);clear HB;obtain⟨HB,aI,aGo,aFv⟩:=n_;clear hb hbox hg;have mC:=aCe aI;have mB:=aCd aI;have l6:=aA0 aI.out 0;have l5:=aA0 aI.out 1)));(repeat(go_quiet (first|((with_reducible refine aAj (N:=7) rfl ?_);refine aAf ?hg (N:=7) ?hd (cs:=#[.int .i64 0,.int .i64 0]) (t:=46) ?hr ?_;(case hd=>rfl);(case hg=>rfl);(case hr=>exact aD9);intro aU hg w23 hbox hb;have n_:=zA4 (aA1 zz2 hb) hbox (aDl:w.heap.size<=aU) (aDl:w.heap.size<=aU);clear HB;obtain⟨HB,aI,aGo,aFv⟩:=n_;clear hb hbox hg;have mC:=aCe aI;have mB:=aCd aI;have l6:=aA0 aI.out 0;have l5:=aA0 aI.out 1));try go_wp2_with (first|((with_reducible refine aAj (N:=7) rfl ?_);refine aAf ?hg (N:=7) ?hd (cs:=#[.int .i64 0,.int .i64 0]) (t:=46) ?hr ?_;(case hd=>rfl);(case hg=>rfl);(case hr=>exact aD9);intro aU hg w23 hbox hb;have n_:=zA4 (aA1 zz2 hb) hbox (aDl:w.heap.size<=aU) (aDl:w.heap.size<=aU);clear HB;obtain⟨HB,aI,aGo,aFv⟩:=n_;clear hb hbox hg;have mC:=aCe aI;have mB:=aCd aI;have l6:=aA0 aI.out 0;have l5:=aA0 aI.out 1))));go_roundg k2;(case measure=>have:=HK1.out;have:=HK2.out;omega);case rel=>exact⟨(Go.bits .or .i64 dY (Go.bits .or .i64 (qO) (rC))),(wrap64 (bS+1)),(by first|rfl|(simp;done)|(simp only[<-rO,<-rN]<;>(first|rfl|simp))|(simp[*];done)),zz6,H',⟨aM9⟩,⟨bBf⟩⟩
end P
namespace Cf
def Ep {α:Type} (g:Nat->Option α) (Q:α->Prop):Prop:=∃ r,Q r/\∃ K,∀ k,K<=k->g k=some r
theorem Ep.now {α:Type} {Q:α->Prop} {r:α} (h:Q r):Ep (λ_=>some r) Q:=⟨r,h,0,λ_ _=>rfl⟩
theorem Ep.mono {α:Type} {g:Nat->Option α} {P Q:α->Prop} (h:Ep g P) (hpq:∀ r,P r->Q r):Ep g Q:=by
 obtain⟨r,hr,K,hK⟩:=h
 exact⟨r,hpq r hr,K,hK⟩
theorem Ep.step {α:Type} {g f:Nat->Option α} {Q:α->Prop} (h:∀ k,g (k+1)=f k) (k:Ep f Q):Ep g Q:=by
 obtain⟨r,hr,K,hK⟩:=k
 refine⟨r,hr,K+1,λk hk=>?_⟩
 obtain⟨m,rfl⟩:∃ m,k=m+1:=⟨k-1,by omega⟩
 rw[h m]
 exact hK m (by omega)
theorem Ep.up {α:Type} {g:Nat->Option α} {Q:α->Prop} (h:Ep (λk=>g (k+1)) Q):Ep g Q:=Ep.step (λ_=>rfl) h
theorem Ep.congr {α:Type} {g f:Nat->Option α} {Q:α->Prop} (h:∀ k,g k=f k) (k:Ep f Q):Ep g Q:=by
 obtain⟨r,hr,K,hK⟩:=k
 exact⟨r,hr,K,λk hk=>(h k).trans (hK k hk)⟩
theorem Ep.bind {α β:Type} {g:Nat->Option α} {f:Nat->α->Option β} {P:α->Prop} {Q:β->Prop} (h:Ep g P) (k:∀ a,P a->Ep (λn=>f n a) Q):Ep (λn=>(g n).bind (f n)) Q:=by
 obtain⟨r,hr,K,hK⟩:=h
 obtain⟨q,hq,L,hL⟩:=k r hr
 refine⟨q,hq,max K L,λk hk=>?_⟩
 show (g k).bind (f k)=some q
 rw[hK k (by omega)]
 exact hL k (by omega)
theorem Ep.aEr {α β:Type} {g:Option α} {f:Nat->α->Option β} {a:α} {Q:β->Prop} (h:g=some a) (k:Ep (λn=>f n a) Q):Ep (λn=>g.bind (f n)) Q:=by
 subst h
 exact k
theorem Ep.ite {α:Type} {c:Prop} [Decidable c] {f g:Nat->Option α} {Q:α->Prop} (h:c->Ep f Q) (k:¬ c->Ep g Q):Ep (λn=>if c then f n else g n) Q:=by
 by_cases hc:c
 ·simp only[hc,if_true]
  exact h hc
 ·simp only[hc,if_false]
  exact k hc
theorem Ep.pos {α:Type} {c:Prop} [Decidable c] {f g:Nat->Option α} {Q:α->Prop} (hc:c) (h:Ep f Q):Ep (λn=>if c then f n else g n) Q:=Ep.ite (λ_=>h) (λk=>absurd hc k)
theorem Ep.neg {α:Type} {c:Prop} [Decidable c] {f g:Nat->Option α} {Q:α->Prop} (hc:¬ c) (h:Ep g Q):Ep (λn=>if c then f n else g n) Q:=Ep.ite (λk=>absurd k hc) (λ_=>h)
theorem Ep.rounds {α:Type} {g:Nat->Option α} {r:α} (h:Ep g (·=r)):∃ k,g k=some r:=by
 obtain⟨q,rfl,K,hK⟩:=h
 exact⟨K,hK K (Nat.le_refl _)⟩
def Wf (k:IntKind) (x:Int):Prop:=(Lit.int k x).wf=true
theorem Wf.i64 {x:Int} (h:Wf .i64 x):-9223372036854775808<=x/\x<=9223372036854775807:=by
 simpa[Wf,Lit.wf,IntKind.min,IntKind.max,IntKind.signed,IntKind.bits]using h
theorem Wf.u8 {x:Int} (h:Wf .u8 x):0<=x/\x<=255:=by
 simpa[Wf,Lit.wf,IntKind.min,IntKind.max,IntKind.signed,IntKind.bits]using h
def SL {α:Type} (Q:α->Prop) (l:List α):Prop:=l.length<=9223372036854775807/\∀ x∈l,Q x
theorem aCk {x:Int} (h0:-9223372036854775808<=x) (h1:x<=9223372036854775807):wrap64 x=x:=by
 unfold wrap64
 omega
theorem aJv (xs:List Int) (i:Nat):rd xs (i:Int)=xs.getD i 0:=by simp[rd]
theorem aEc {xs:List Int} {i:Nat} (h:i<xs.length):rd xs (i:Int)=xs[i]:=by simp[rd,List.getD,h]
def Adj (es:List E) (a b:Int):Prop:=∃ e∈es,(e.f0=a/\e.f1=b)∨(e.f0=b/\e.f1=a)
theorem Adj.symm {es:List E} {a b:Int} (h:Adj es a b):Adj es b a:=by
 obtain⟨e,he,h⟩:=h
 exact⟨e,he,h.symm⟩
inductive aH6 (es:List E) (a:Int):Int->Prop
 | refl:aH6 es a a
 | tail {b c:Int}:aH6 es a b->Adj es b c->aH6 es a c
theorem aH6.trans {es:List E} {a b c:Int} (h:aH6 es a b) (k:aH6 es b c):aH6 es a c:=by
 induction k with
 | refl=>exact h
 | tail _ aL9 ih=>exact ih.tail aL9
theorem aH6.one {es:List E} {a b:Int} (h:Adj es a b):aH6 es a b:=aH6.refl.tail h
theorem aH6.symm {es:List E} {a b:Int} (h:aH6 es a b):aH6 es b a:=by
 induction h with
 | refl=>exact .refl
 | tail _ aL9 ih=>exact(aH6.one aL9.symm).trans ih
theorem aH6.sub {es fs:List E} (hs:∀ e∈es,e∈fs) {a b:Int} (h:aH6 es a b):aH6 fs a b:=by
 induction h with
 | refl=>exact .refl
 | tail _ aL9 ih =>
  obtain⟨e,he,hx⟩:=aL9
  exact ih.tail ⟨e,hs e he,hx⟩
theorem aH6.closed {es:List E} {S:Int->Prop} (hS:∀ a b,S a->Adj es a b->S b) {a b:Int} (h:aH6 es a b) (ha:S a):S b:=by
 induction h with
 | refl=>exact ha
 | tail _ aL9 ih=>exact hS _ _ ih aL9
def EOk (n:Int) (e:E):Prop:=0<=e.f0/\e.f0<e.f1/\e.f1<n
instance bR7 (n:Int) (e:E):Decidable (EOk n e):=by unfold EOk;infer_instance
def aHx (n:Int) (es:List E):Prop:=1<=n/\n<=6/\es.length<=12/\∀ e∈es,EOk n e
instance bP3 (n:Int) (es:List E):Decidable (aHx n es):=by unfold aHx;infer_instance
def leE (a b:E):Prop:=a.f0<b.f0∨(a.f0=b.f0/\a.f1<=b.f1)
instance bR6 (a b:E):Decidable (leE a b):=by unfold leE;infer_instance
def Sorted (es:List E):Prop:=∀ i,(h:i+1<es.length)->leE es[i] es[i+1]
def Joined (n:Int) (es:List E):Prop:=∀ v,0<=v->v<n->aH6 es 0 v
def GOk (n:Int) (es:List E):Prop:=aHx n es/\Sorted es/\Joined n es
instance bLe (es:List E):Decidable (Sorted es):=decidable_of_iff (∀ i,(h:i<es.length-1)->leE (es[i]'(by omega)) (es[i+1]'(by omega))) ⟨λh i hi=>h i (by omega),λh i hi=>h i (by omega)⟩
theorem aHx.adj {n:Int} {es:List E} (h:∀ e∈es,EOk n e) {a b:Int} (hab:Adj es a b):0<=b/\b<n:=by
 obtain⟨e,he,hx⟩:=hab
 have:=h e he
 unfold EOk at this
 omega
theorem aHx.conn {n:Int} {es:List E} (h:∀ e∈es,EOk n e) {a b:Int} (ha:0<=a/\a<n) (hab:aH6 es a b):0<=b/\b<n :=
 hab.closed (S:=λx=>0<=x/\x<n) (λ_ _ _ aL9=>aHx.adj h aL9) ha
def stepM (m:Nat) (e:E):Nat:=if m.testBit e.f0.toNat||m.testBit e.f1.toNat then m ||| (2^e.f0.toNat ||| 2^e.f1.toNat) else m
def aG6 (es:List E) (m:Nat):Nat:=es.foldl stepM m
def aHa (es:List E):Nat->Nat->Nat
 | 0,m=>m
 | k+1,m=>aHa es k (aG6 es m)
theorem aIy {m:Nat} {e:E} {i:Nat}:(stepM m e).testBit i=(m.testBit i||((m.testBit e.f0.toNat||m.testBit e.f1.toNat)&&(i==e.f0.toNat||i==e.f1.toNat))):=by
 unfold stepM
 by_cases h:(m.testBit e.f0.toNat||m.testBit e.f1.toNat)=true
 ·rw[if_pos h,h]
  simp only[Nat.testBit_or,Nat.testBit_two_pow,Bool.true_and]
  congr 1
  rw[Bool.eq_iff_iff]
  simp only[Bool.or_eq_true,decide_eq_true_eq,beq_iff_eq]
  omega
 ·rw[if_neg h]
  simp only[Bool.not_eq_true]at h
  rw[h]
  simp
theorem aQ5 {m:Nat} {e:E} {i:Nat} (h:m.testBit i=true):(stepM m e).testBit i=true:=by rw[aIy,h];rfl
theorem aJj (es:List E):∀ {m:Nat} {i:Nat},m.testBit i=true->(aG6 es m).testBit i=true:=by
 induction es with
 | nil=>intro m i h;exact h
 | cons e r ih=>intro m i h;exact ih (aQ5 h)
theorem aO9 (es:List E):∀ (k:Nat) {m:Nat} {i:Nat},m.testBit i=true->(aHa es k m).testBit i=true
 | 0,_,_,h=>h
 | k+1,_,_,h=>aO9 es k (aJj es h)
def MOk (es:List E) (n:Int) (m:Nat):Prop:=∀ i:Nat,m.testBit i=true->(i:Int)<n/\aH6 es 0 i
theorem step_ok {es:List E} {n:Int} {m:Nat} {e:E} (he:e∈es) (hk:EOk n e) (h:MOk es n m):MOk es n (stepM m e):=by
 intro i hi
 rw[aIy]at hi
 simp only[Bool.or_eq_true,Bool.and_eq_true,beq_iff_eq]at hi
 unfold EOk at hk
 have e0:((e.f0.toNat:Nat):Int)=e.f0:=by omega
 have e1:((e.f1.toNat:Nat):Int)=e.f1:=by omega
 rcases hi with hi|⟨hm,hi⟩
 ·exact h i hi
 ·have key:aH6 es 0 e.f0/\aH6 es 0 e.f1:=by
   rcases hm with hm|hm
   ·have:=(h _ hm).2
    rw[e0]at this
    exact⟨this,this.tail ⟨e,he,.inl ⟨rfl,rfl⟩⟩⟩
   ·have:=(h _ hm).2
    rw[e1]at this
    exact⟨this.tail ⟨e,he,.inr ⟨rfl,rfl⟩⟩,this⟩
  rcases hi with hi|hi
  ·subst hi
   rw[e0]
   exact⟨by omega,key.1⟩
  ·subst hi
   rw[e1]
   exact⟨by omega,key.2⟩
theorem aUf {es:List E} {n:Int} (hes:∀ e∈es,EOk n e):∀ (fs:List E),(∀ e∈fs,e∈es)->∀ {m:Nat},MOk es n m->MOk es n (aG6 fs m):=by
 intro fs
 induction fs with
 | nil=>intro _ m h;exact h
 | cons e r ih =>
  intro hs m h
  have he:=hs e (List.mem_cons_self)
  exact ih (λx hx=>hs x (List.mem_cons_of_mem _ hx)) (step_ok he (hes e he) h)
theorem aU2 {es:List E} {n:Int} (hes:∀ e∈es,EOk n e):∀ (k:Nat) {m:Nat},MOk es n m->MOk es n (aHa es k m)
 | 0,_,h=>h
 | k+1,_,h=>aU2 hes k (aUf hes es (λ_ h=>h) h)
def cnt (n:Nat) (m:Nat):Nat:=(List.range n).countP (m.testBit ·)
theorem cnt_le (n m:Nat):cnt n m<=n:=by
 unfold cnt
 have:=List.countP_le_length (p:=λi=>m.testBit i) (l:=List.range n)
 simpa using this
theorem aL0 {α:Type} {p q:α->Bool}:∀ {l:List α},(∀ x∈l,p x=true->q x=true)->(∃ x∈l,p x=false/\q x=true)->l.countP p<l.countP q
 | [],_,h=>by obtain⟨x,hx,_⟩:=h;cases hx
 | y::r,hpq,h=>by
  have hle:r.countP p<=r.countP q:=List.countP_mono_left (λx hx=>hpq x (List.mem_cons_of_mem _ hx))
  simp only[List.countP_cons]
  by_cases hy:p y=false/\q y=true
  ·rw[hy.1,hy.2]
   simp
   omega
  ·have hr:r.countP p<r.countP q:=by
    apply aL0 (λx hx=>hpq x (List.mem_cons_of_mem _ hx))
    obtain⟨x,hx,h1⟩:=h
    rcases List.mem_cons.1 hx with rfl|hx
    ·exact absurd h1 hy
    ·exact⟨x,hx,h1⟩
   have h2:=hpq y List.mem_cons_self
   by_cases hp:p y=true
   ·rw[hp,h2 hp]
    simp
    omega
   ·simp only[hp,if_false,Bool.not_eq_true]at *
    simp
    split<;>omega
theorem cnt_lt {n m m':Nat} (h:∀ i,m.testBit i=true->m'.testBit i=true) (hx:∃ i,i<n/\m.testBit i=false/\m'.testBit i=true):cnt n m<cnt n m':=by
 obtain⟨i,hi,h1⟩:=hx
 exact aL0 (λx _=>h x) ⟨i,List.mem_range.2 hi,h1⟩
theorem aO1 {es:List E}:∀ (fs:List E) {m:Nat},(∀ i,(aG6 fs m).testBit i=true->m.testBit i=true)->∀ e∈fs,m.testBit e.f0.toNat=m.testBit e.f1.toNat:=by
 intro fs
 induction fs with
 | nil=>intro m _ e he;cases he
 | cons a r ih =>
  intro m h e he
  have hst:∀ i,(stepM m a).testBit i=true->m.testBit i=true:=λi hi=>h i (aJj r hi)
  have heq:stepM m a=m:=by
   apply Nat.eq_of_testBit_eq
   intro i
   rw[Bool.eq_iff_iff]
   exact⟨hst i,aQ5⟩
  rcases List.mem_cons.1 he with rfl|he
  ·have h0:=hst e.f0.toNat
   have h1:=hst e.f1.toNat
   rw[aIy]at h0 h1
   simp only[beq_self_eq_true,Bool.true_or,Bool.or_true,Bool.and_true,Bool.or_eq_true]at h0 h1
   rw[Bool.eq_iff_iff]
   exact⟨λhx=>h1 (.inr (.inl hx)),λhx=>h0 (.inr (.inr hx))⟩
  ·have:aG6 (a::r) m=aG6 r m:=by show aG6 r (stepM m a)=_;rw[heq]
   exact ih (λi hi=>h i (by rw[this];exact hi)) e he
theorem aPm {es:List E} {n:Int} (hes:∀ e∈es,EOk n e) {m:Nat} (h:∀ i,(aG6 es m).testBit i=true->m.testBit i=true) (h0:m.testBit 0=true) (i:Nat) (hi:aH6 es 0 i):m.testBit i=true:=by
 have hf:=aO1 (es:=es) es h
 have key:∀ v:Int,aH6 es 0 v->0<=v/\m.testBit v.toNat=true:=by
  intro v hv
  refine hv.closed (S:=λv=>0<=v/\m.testBit v.toNat=true) ?_ ⟨by omega,h0⟩
  rintro a b ⟨ha,hb⟩ ⟨e,he,hx⟩
  have hk:=hes e he
  unfold EOk at hk
  rcases hx with ⟨h1,h2⟩|⟨h1,h2⟩
  ·subst h1;subst h2
   exact⟨by omega,by rw[<-hf e he];exact hb⟩
  ·subst h1;subst h2
   exact⟨by omega,by rw[hf e he];exact hb⟩
 have:=(key i hi).2
 simpa using this
theorem aOa {es:List E} {n:Nat} (hes:∀ e∈es,EOk n e):∀ (k:Nat) {m:Nat},MOk es n m->m.testBit 0=true ->
  (∀ i:Nat,aH6 es 0 i->(aHa es k m).testBit i=true)∨k+cnt n m<=cnt n (aHa es k m)
 | 0,m,_,_=>.inr (by simp[aHa])
 | k+1,m,hm,h0=>by
  by_cases hfix:∀ i,(aG6 es m).testBit i=true->m.testBit i=true
  ·left
   intro i hi
   exact aO9 es (k+1) (aPm hes hfix h0 i hi)
  ·obtain⟨i,hi⟩:=Classical.not_forall.1 hfix
   have hi1:(aG6 es m).testBit i=true:=Classical.byContradiction λhc=>hi (λx=>absurd x hc)
   have hi2:m.testBit i=false:=by
    cases hb:m.testBit i with
    | false=>rfl
    | true=>exact absurd (λ_=>hb) hi
   have hok:=aUf hes es (λ_ h=>h) hm
   have hlt:cnt n m<cnt n (aG6 es m):=cnt_lt (λj hj=>aJj es hj) ⟨i,by have:=(hok i hi1).1;omega,hi2,hi1⟩
   rcases aOa hes k hok (aJj es h0) with h|h
   ·exact .inl h
   ·right
    show k+1+_<=cnt n (aHa es k (aG6 es m))
    omega
theorem bD0 {n m:Nat} (h:n<=cnt n m):∀ i,i<n->m.testBit i=true:=by
 intro i hi
 apply Classical.byContradiction
 intro hc
 have hc':m.testBit i=false:=by simpa using hc
 have:cnt n m<cnt n (2^n-1):=by
  refine aL0 (λx hx _=>?_) ⟨i,List.mem_range.2 hi,hc',?_⟩
  ·rw[Nat.testBit_two_pow_sub_one];simpa using hx
  ·rw[Nat.testBit_two_pow_sub_one];simpa using hi
 have:=cnt_le n (2^n-1)
 omega
theorem aIx {es:List E} {n:Nat} (h1:1<=n) (hes:∀ e∈es,EOk n e):aHa es n 1=2^n-1↔Joined n es:=by
 have hm1:MOk es n 1:=by
  intro i hi
  have:i=0:=by simpa[Nat.testBit_one_eq_true_iff_self_eq_zero]using hi
  subst this
  exact⟨by omega,.refl⟩
 have h0:(1:Nat).testBit 0=true:=by decide
 have hok:=aU2 hes n hm1
 constructor
 ·intro h v hv0 hvn
  have:=hok v.toNat (by rw[h,Nat.testBit_two_pow_sub_one];simp;omega)
  have e:((v.toNat:Nat):Int)=v:=by omega
  rw[e]at this
  exact this.2
 ·intro hj
  have hall:∀ i,i<n->(aHa es n 1).testBit i=true:=by
   rcases aOa hes n hm1 h0 with h|h
   ·exact λi hi=>h i (hj i (by omega) (by omega))
   ·have:n<=cnt n (aHa es n 1):=by omega
    exact bD0 this
  apply Nat.eq_of_testBit_eq
  intro i
  rw[Nat.testBit_two_pow_sub_one,Bool.eq_iff_iff]
  simp only[decide_eq_true_eq]
  refine⟨λh=>?_,λh=>hall i h⟩
  have:=(hok i h).1
  omega
def gOk (n:Int) (es:List E):Bool:=decide (aHx n es)&&(decide (Sorted es)&&decide (aHa es n.toNat 1=2^n.toNat-1))
theorem aE8 {n:Int} {es:List E}:gOk n es=true↔GOk n es:=by
 unfold gOk GOk
 simp only[Bool.and_eq_true,decide_eq_true_eq]
 constructor
 ·rintro⟨h1,h2,h3⟩
  have h:=h1
  unfold aHx at h
  obtain⟨m,rfl⟩:=Int.eq_ofNat_of_zero_le (a:=n) (by omega)
  exact⟨h1,h2,(aIx (n:=m) (by omega) h.2.2.2).1 h3⟩
 ·rintro⟨h1,h2,h3⟩
  have h:=h1
  unfold aHx at h
  obtain⟨m,rfl⟩:=Int.eq_ofNat_of_zero_le (a:=n) (by omega)
  exact⟨h1,h2,(aIx (n:=m) (by omega) h.2.2.2).2 h3⟩
def QOk (es:List E) (n:Int) (q:List Int):Prop:=q.Nodup/\∀ v∈q,(0<=v/\v<n)/\aH6 es 0 v
theorem aFx:∀ (n:Nat) (l:List Int),l.Nodup->(∀ v∈l,0<=v/\v<n)->l.length<=n
 | 0,l,_,hv=>by
  cases l with
  | nil=>exact Nat.le_refl _
  | cons a r=>have:=hv a List.mem_cons_self;omega
 | n+1,l,hl,hv=>by
  by_cases hm:(n:Int)∈l
  ·have h1:=aFx n (l.erase n) (hl.erase _) (λv hx=>by
    have h2:=(hl.mem_erase_iff).1 hx
    have:=hv v h2.2
    have:=h2.1
    omega)
   rw[List.length_erase_of_mem hm]at h1
   omega
  ·have:=aFx n l hl (λv hx=>by
    have:=hv v hx
    have:v≠n:=by rintro rfl;exact hm hx
    omega)
   omega
theorem aNe:∀ (n:Nat) (l:List Int),(∀ i:Nat,i<n->(i:Int)∈l)->n<=l.length
 | 0,_,_=>Nat.zero_le _
 | n+1,l,h=>by
  have hm:=h n (by omega)
  have:=aNe n (l.erase n) (λi hi=>(List.mem_erase_of_ne (by omega)).2 (h i (by omega)))
  rw[List.length_erase_of_mem hm]at this
  have:0<l.length:=List.length_pos_of_mem hm
  omega
theorem aQn {es:List E} {n:Nat} (h1:1<=n) {q:List Int} (hq:QOk es n q) (h0:(0:Int)∈q) (hc:∀ a∈q,∀ b,Adj es a b->b∈q):q.length=n↔Joined n es:=by
 constructor
 ·intro hl v hv0 hvn
  have:v∈q:=by
   apply Classical.byContradiction
   intro hv
   have:=aFx n (v::q) (List.nodup_cons.2 ⟨hv,hq.1⟩) (λx hx=>by
    rcases List.mem_cons.1 hx with rfl|hx
    ·exact⟨hv0,hvn⟩
    ·exact(hq.2 x hx).1)
   simp at this
   omega
  exact(hq.2 v this).2
 ·intro hj
  have:=aFx n q hq.1 (λx hx=>(hq.2 x hx).1)
  have:=aNe n q (λi hi=>(hj i (by omega) (by omega)).closed (S:=λx=>x∈q) (λa b ha hab=>hc a ha b hab) h0)
  omega
theorem QOk.push {es:List E} {n:Int} {q:List Int} (h:QOk es n q) {v:Int} (hv:v∉q) (h0:0<=v/\v<n) (hc:aH6 es 0 v):QOk es n (q++[v]):=by
 refine⟨?_,λx hx=>?_⟩
 ·rw[List.nodup_append]
  exact⟨h.1,by simp,λa ha b hb=>by
   rw[List.mem_singleton.1 hb]
   rintro rfl
   exact hv ha⟩
 ·rcases List.mem_append.1 hx with hx|hx
  ·exact h.2 x hx
  ·rw[List.mem_singleton.1 hx]
   exact⟨h0,hc⟩
end Cf
namespace Cf
open P
theorem wrap_succ {i:Nat} (h:i<4611686018427387904):wrap64 ((i:Int)+1)=((i+1:Nat):Int):=by
 rw[aCk (by omega) (by omega)]
 omega
theorem aFu {es:List E} {i:Nat} (h:i<es.length):aA3 es (i:Int)=es[i]:=by simp[aA3,List.getD,h]
theorem aIg (a b c:Int):aCm.f a b c=some (decide (b<=a/\a<=c)):=by
 unfold aCm.f
 by_cases h:a≥b
 ·rw[if_pos h]
  have:(b<=a/\a<=c)↔a<=c:=⟨λx=>x.2,λx=>⟨h,x⟩⟩
  simp only[this]
 ·rw[if_neg h]
  have:¬ (b<=a/\a<=c):=λx=>h x.1
  simp only[this,decide_false]
theorem aH3 {es:List E} {P:E->Prop} {i:Nat} (h:i<es.length):(∀ e∈es.drop i,P e)↔(P es[i]/\∀ e∈es.drop (i+1),P e):=by
 rw[List.drop_eq_getElem_cons h]
 simp only[List.mem_cons,forall_eq_or_imp]
theorem aQf (n:Int) (hn:1<=n/\n<=6) (es:List E) (hl:es.length<=12):∀ (d i:Nat),i+d=es.length->Ep (λk=>aBl.l0 k es (es.length:Int) (i:Int) n es) (·=decide (∀ e∈es.drop i,EOk n e)):=by
 intro d
 induction d with
 | zero =>
  intro i hi
  refine Ep.up ?_
  simp only[aBl.l0]
  refine Ep.neg (by omega) (Ep.now ?_)
  rw[List.drop_of_length_le (by omega)]
  simp
 | succ d ih =>
  intro i hi
  have hlt:i<es.length:=by omega
  refine Ep.up ?_
  simp only[aBl.l0]
  refine Ep.pos (by omega) (Ep.pos (by omega) (Ep.pos (by omega) ?_))
  rw[aFu hlt,aCk (x:=n-1) (by omega) (by omega)]
  refine Ep.aEr (aIg _ _ _) ?_
  refine Ep.ite (λh0=>?_) (λh0=>Ep.now ?_)
  ·have h0':0<=es[i].f0/\es[i].f0<=n-1:=by simpa using h0
   rw[aCk (x:=es[i].f0+1) (by omega) (by omega)]
   refine Ep.aEr (aIg _ _ _) ?_
   refine Ep.ite (λh1=>?_) (λh1=>Ep.now ?_)
   ·have h1':es[i].f0+1<=es[i].f1/\es[i].f1<=n-1:=by simpa using h1
    rw[wrap_succ (by omega)]
    refine(ih (i+1) (by omega)).mono ?_
    rintro _ rfl
    have:EOk n es[i]:=by unfold EOk;omega
    simp only[aH3 hlt,this,true_and]
   ·have h1':¬ (es[i].f0+1<=es[i].f1/\es[i].f1<=n-1):=by simpa using h1
    have:¬ EOk n es[i]:=by unfold EOk;omega
    simp only[aH3 hlt,this,false_and,decide_false]
  ·have h0':¬ (0<=es[i].f0/\es[i].f0<=n-1):=by simpa using h0
   have:¬ EOk n es[i]:=by unfold EOk;omega
   simp only[aH3 hlt,this,false_and,decide_false]
theorem aY3 (n:Int) (es:List E):Ep (λk=>aBl.f k n es) (·=decide (aHx n es)):=by
 simp only[aBl.f]
 refine Ep.aEr (aIg _ _ _) ?_
 refine Ep.ite (λh0=>?_) (λh0=>?_)
 ·have h0':1<=n/\n<=6:=by simpa using h0
  refine Ep.up ?_
  simp only[aBl.j0]
  refine Ep.ite (λh1=>Ep.now ?_) (λh1=>?_)
  ·have:¬ aHx n es:=by
    have:(es.length:Int)>12:=by simpa using h1
    unfold aHx
    omega
   simp[this]
  ·have hl:es.length<=12:=by
    have:¬ (es.length:Int)>12:=by simpa using h1
    omega
   refine(aQf n h0' es hl es.length 0 (by omega)).mono ?_
   rintro _ rfl
   rw[List.drop_zero]
   unfold aHx
   simp only[h0'.1,h0'.2,hl,true_and]
 ·have h0':¬ (1<=n/\n<=6):=by simpa using h0
  refine Ep.up ?_
  simp only[aBl.j0]
  refine Ep.pos (by simp) (Ep.now ?_)
  have:¬ aHx n es:=by
   unfold aHx
   omega
  simp[this]
theorem aVy (x:Int) (l:List Int) (hl:l.length<=1048576):∀ (d i:Nat),i+d=l.length->Ep (λk=>aBo.l0 k x l (l.length:Int) (i:Int)) (·=decide (x∈l.drop i)):=by
 intro d
 induction d with
 | zero =>
  intro i hi
  refine Ep.up ?_
  simp only[aBo.l0]
  refine Ep.neg (by omega) (Ep.now ?_)
  rw[List.drop_of_length_le (by omega)]
  simp
 | succ d ih =>
  intro i hi
  have hlt:i<l.length:=by omega
  refine Ep.up ?_
  simp only[aBo.l0]
  refine Ep.pos (by omega) (Ep.pos (by omega) (Ep.pos (by omega) ?_))
  rw[aEc hlt,wrap_succ (by omega),List.drop_eq_getElem_cons hlt]
  refine Ep.ite (λh=>Ep.now ?_) (λh=>?_)
  ·simp only[List.mem_cons,h,true_or,decide_true]
  ·refine(ih (i+1) (by omega)).mono ?_
   rintro _ rfl
   have:¬ x=l[i]:=λe=>h e.symm
   simp only[List.mem_cons,this,false_or]
theorem aY2 (l:List Int) (x:Int) (hl:l.length<=1048576):Ep (λk=>aBo.f k l x) (·=decide (x∈l)):=by
 have:=aVy x l hl l.length 0 (by omega)
 simp only[aBo.f]
 exact this
structure BInv (es:List E) (n:Nat) (q:List Int) (a i:Nat) (u:Int):Prop where
 ok:QOk es n q
 zero:(0:Int)∈q
 done:∀ x∈q.take a,∀ b,Adj es x b->b∈q
 at_:q[a]? = some u
 part:∀ e∈es.take i,(e.f0=u->e.f1∈q)/\(e.f1=u->e.f0∈q)
theorem BInv.lt {es:List E} {n:Nat} {q:List Int} {a i:Nat} {u:Int} (h:BInv es n q a i u):a<q.length:=by
 apply Classical.byContradiction
 intro hc
 have:=h.at_
 rw[List.getElem?_eq_none (by omega)]at this
 cases this
theorem BInv.len {es:List E} {n:Nat} {q:List Int} {a i:Nat} {u:Int} (h:BInv es n q a i u):q.length<=n:=aFx n q h.ok.1 (λv hv=>(h.ok.2 v hv).1)
theorem BInv.rd {es:List E} {n:Nat} {q:List Int} {a i:Nat} {u:Int} (h:BInv es n q a i u):rd q (a:Int)=u:=by
 rw[aJv,zdG,h.at_]
 rfl
theorem BInv.push {es:List E} {n:Nat} {q:List Int} {a i:Nat} {u v:Int} (hes:∀ e∈es,EOk n e) (h:BInv es n q a i u) (hv:v∉q) (aL9:Adj es u v):BInv es n (q++[v]) a i u where
 ok:=by
  have hu:u∈q:=List.mem_of_getElem? h.at_
  exact h.ok.push hv (aHx.adj hes aL9) ((h.ok.2 u hu).2.tail aL9)
 zero:=List.mem_append_left _ h.zero
 done:=λx hx b hb=>by
  rw[List.take_append_of_le_length (by have:=h.lt;omega)]at hx
  exact List.mem_append_left _ (h.done x hx b hb)
 at_:=by rw[List.getElem?_append_left h.lt];exact h.at_
 part:=λe he=>⟨λx=>List.mem_append_left _ ((h.part e he).1 x),λx=>List.mem_append_left _ ((h.part e he).2 x)⟩
theorem BInv.next {es:List E} {n:Nat} {q:List Int} {a i:Nat} {u:Int} (h:BInv es n q a i u) (hi:i<es.length) (h0:es[i].f0=u->es[i].f1∈q) (h1:es[i].f1=u->es[i].f0∈q):BInv es n q a (i+1) u where
 ok:=h.ok
 zero:=h.zero
 done:=h.done
 at_:=h.at_
 part:=λe he=>by
  rw[List.take_succ_eq_append_getElem hi]at he
  rcases List.mem_append.1 he with he|he
  ·exact h.part e he
  ·rw[List.mem_singleton.1 he]
   exact⟨h0,h1⟩
theorem aQ9 (n:Nat) (hn:n<=6) (es:List E) (hl:es.length<=12) (hes:∀ e∈es,EOk n e) (a:Nat) (u:Int) {Q:List Int->Prop}
  (hk:∀ q,BInv es n q a es.length u->Ep (λk=>aAm.l0 k q ((a+1:Nat):Int) (n:Int) es) Q) :
  ∀ (d i:Nat) (q:List Int),i+d=es.length->BInv es n q a i u->Ep (λk=>aAm.l1 k q (a:Int) es (es.length:Int) (i:Int) (n:Int) es) Q:=by
 intro d
 induction d with
 | zero =>
  intro i q hi hb
  refine Ep.up ?_
  simp only[aAm.l1]
  refine Ep.neg (by omega) ?_
  have:=hb.lt
  have:=hb.len
  rw[wrap_succ (by omega)]
  have e:i=es.length:=by omega
  subst e
  exact hk q hb
 | succ d ih =>
  intro i q hi hb
  have hlt:i<es.length:=by omega
  have hal:=hb.lt
  have hql:=hb.len
  have he:=hes es[i] (List.getElem_mem hlt)
  have bW0:=he
  unfold EOk at he
  have aL9:Adj es es[i].f0 es[i].f1:=⟨es[i],List.getElem_mem hlt,.inl ⟨rfl,rfl⟩⟩
  -- the second test, behind the first
  have second:∀ q',BInv es n q' a i u->(es[i].f0=u->es[i].f1∈q')->Ep (λk=>if (0:Int)<=(a:Int) then(if(a:Int)<(q'.length:Int) then(if es[i].f1=rd q' (a:Int) then((aBo.f k q' es[i].f0).bind λt=>(if t=true then(aAm.l1 k q' (a:Int) es (es.length:Int) (wrap64 ((i:Int)+1)) (n:Int) es) else(if q'.length<17592186044416 then(aAm.l1 k (q'++[es[i].f0]) (a:Int) es (es.length:Int) (wrap64 ((i:Int)+1)) (n:Int) es) else(none)))) else(aAm.l1 k q' (a:Int) es (es.length:Int) (wrap64 ((i:Int)+1)) (n:Int) es)) else(none)) else(none)) Q:=by
   intro q' hb' h0
   have hal':=hb'.lt
   have bVv:=hb'.len
   refine Ep.pos (by omega) (Ep.pos (by omega) ?_)
   rw[hb'.rd,wrap_succ (by omega)]
   refine Ep.ite (λh1=>?_) (λh1=>ih (i+1) q' (by omega) (hb'.next hlt h0 (λx=>absurd x h1)))
   refine Ep.bind (aY2 q' _ (by omega)) ?_
   rintro _ rfl
   refine Ep.ite (λh2=>ih (i+1) q' (by omega) (hb'.next hlt h0 (λ_=>by simpa using h2))) (λh2=>Ep.pos (by omega) ?_)
   have h2':es[i].f0∉q':=by simpa using h2
   have hb2:=hb'.push hes h2' (by rw[<-h1];exact aL9.symm)
   exact ih (i+1) _ (by omega) (hb2.next hlt (λx=>List.mem_append_left _ (h0 x)) (λ_=>by simp))
  refine Ep.up ?_
  simp only[aAm.l1]
  refine Ep.pos (by omega) (Ep.pos (by omega) (Ep.pos (by omega) (Ep.pos (by omega) (Ep.pos (by omega) ?_))))
  rw[aFu hlt,hb.rd]
  refine Ep.ite (λh0=>?_) (λh0=>?_)
  ·refine Ep.bind (aY2 q _ (by omega)) ?_
   rintro _ rfl
   refine Ep.up ?_
   simp only[aAm.j2]
   refine Ep.ite (λh1=>Ep.pos (by omega) ?_) (λh1=>second q hb (λ_=>by simpa using h1))
   have h1':es[i].f1∉q:=by simpa using h1
   refine Ep.aEr rfl ?_
   exact second _ (hb.push hes h1' (by rw[<-h0];exact aL9)) (λ_=>by simp)
  ·refine Ep.up ?_
   simp only[aAm.j2]
   exact Ep.neg (by simp) (second q hb (λx=>absurd x h0))
theorem aQa (n:Nat) (hn:1<=n/\n<=6) (es:List E) (hl:es.length<=12) (hes:∀ e∈es,EOk n e):∀ (d a:Nat) (q:List Int),a+d=7->a<=q.length->QOk es n q->(0:Int)∈q->(∀ x∈q.take a,∀ b,Adj es x b->b∈q) ->
  Ep (λk=>aAm.l0 k q (a:Int) (n:Int) es) (λr=>(r.length=n↔Joined n es)/\r.length<=6):=by
 intro d
 induction d with
 | zero =>
  intro a q ha hq hok _ _
  have:=aFx n q hok.1 (λv hv=>(hok.2 v hv).1)
  omega
 | succ d ih =>
  intro a q ha hq hok h0 hdone
  have hlen:=aFx n q hok.1 (λv hv=>(hok.2 v hv).1)
  refine Ep.up ?_
  simp only[aAm.l0]
  refine Ep.ite (λhlt=>?_) (λhge=>Ep.now ?_)
  ·have hlt':a<q.length:=by omega
   have hb:BInv es n q a 0 q[a]:=⟨hok,h0,hdone,zdH hlt',λe he=>by simp at he⟩
   refine aQ9 n hn.2 es hl hes a q[a] ?_ es.length 0 q (by omega) hb
   intro q' hb'
   refine ih (a+1) q' (by omega) (by have:=hb'.lt;omega) hb'.ok hb'.zero ?_
   intro x hx b aL9
   have hal:=hb'.lt
   rw[List.take_succ_eq_append_getElem hal]at hx
   rcases List.mem_append.1 hx with hx|hx
   ·exact hb'.done x hx b aL9
   ·have hx':x=q'[a]:=List.mem_singleton.1 hx
    have hu:q'[a]=q[a]:=by
     have:=hb'.at_
     rw[zdH hal]at this
     exact zdI this
    obtain⟨e,he,h⟩:=aL9
    have hp:=hb'.part e (by rw[List.take_of_length_le (Nat.le_refl _)];exact he)
    rcases h with ⟨x0,x1⟩|⟨x0,x1⟩
    ·rw[<-x1]
     exact hp.1 (by rw[x0,hx',hu])
    ·rw[<-x0]
     exact hp.2 (by rw[x1,hx',hu])
  ·have hfull:q.take a=q:=List.take_of_length_le (by omega)
   rw[hfull]at hdone
   exact⟨aQn hn.1 hok h0 hdone,by omega⟩
theorem aQb (n:Nat) (hn:1<=n/\n<=6) (es:List E) (hl:es.length<=12) (hes:∀ e∈es,EOk n e):Ep (λk=>aAm.f k (n:Int) es) (λr=>(r.length=n↔Joined n es)/\r.length<=6):=by
 simp only[aAm.f]
 refine aQa n hn es hl hes 7 0 [0] rfl (by simp) ⟨by simp,λv hv=>?_⟩ (by simp) (λx hx=>by simp at hx)
 rw[List.mem_singleton.1 hv]
 exact⟨⟨Int.le_refl _,by omega⟩,.refl⟩
def bD8 (es:List E) (i:Nat):Prop:=∀ j,(h:j+1<es.length)->j+1<i->leE es[j] es[j+1]
theorem aQe (n:Nat) (es:List E) (hes:aHx n es):∀ (d i:Nat),i+d=es.length->bD8 es i->Ep (λk=>aAn.l0 k es (es.length:Int) (i:Int) (n:Int) es) (·=gOk n es):=by
 have hes':=hes
 obtain⟨hn1,hn6,hl,hok⟩:=hes
 intro d
 induction d with
 | zero =>
  intro i hi hs
  refine Ep.up ?_
  simp only[aAn.l0]
  refine Ep.neg (by omega) ?_
  refine Ep.bind (aQb n (by omega) es hl hok) ?_
  rintro r ⟨hr,_⟩
  refine Ep.now ?_
  have hsorted:Sorted es:=λj h=>hs j h (by omega)
  have hiff:GOk n es↔Joined n es:=⟨λh=>h.2.2,λh=>⟨hes',hsorted,h⟩⟩
  by_cases hj:Joined n es
  ·have:gOk n es=true:=aE8.2 (hiff.2 hj)
   rw[this,hr.2 hj]
   simp
  ·have:gOk n es=false:=by
    cases hg:gOk n es with
    | false=>rfl
    | true=>exact absurd (hiff.1 (aE8.1 hg)) hj
   rw[this]
   have hne:r.length≠n:=λe=>hj (hr.1 e)
   simp
   omega
 | succ d ih =>
  intro i hi hs
  have hlt:i<es.length:=by omega
  have hbad:∀ j,i=j+1->(hj:j<es.length)->¬ leE es[j] es[i]->gOk n es=false:=by
   intro j hij hj hx
   subst hij
   cases hg:gOk n es with
   | false=>rfl
   | true=>exact absurd ((aE8.1 hg).2.1 j hlt) hx
  have hgood:(∀ j,i=j+1->(hj:j<es.length)->leE es[j] es[i])->Ep (λk=>aAn.l0 k es (es.length:Int) (wrap64 ((i:Int)+1)) (n:Int) es) (·=gOk n es):=by
   intro hx
   rw[wrap_succ (by omega)]
   refine ih (i+1) (by omega) ?_
   intro j h hji
   by_cases e:j+1<i
   ·exact hs j h e
   ·have e':i=j+1:=by omega
    have:=hx j e' (by omega)
    subst e'
    exact this
  refine Ep.up ?_
  simp only[aAn.l0]
  refine Ep.pos (by omega) (Ep.pos (by omega) (Ep.pos (by omega) ?_))
  refine Ep.ite (λhpos=>?_) (λhz=>hgood (λj hij _=>by omega))
  obtain⟨j,rfl⟩:∃ j,i=j+1:=⟨i-1,by omega⟩
  have hw:wrap64 (((j+1:Nat):Int)-1)=(j:Int):=by rw[aCk (by omega) (by omega)];omega
  rw[hw,aFu hlt,aFu (show j<es.length by omega)]
  refine Ep.pos (by omega) (Ep.pos (by omega) ?_)
  refine Ep.ite (λh0=>Ep.now ?_) (λh0=>?_)
  ·exact(hbad j rfl (by omega) (by unfold leE;omega)).symm
  ·refine Ep.ite (λh1=>?_) (λh1=>hgood (λj' hij _=>?_))
   ·refine Ep.ite (λh2=>Ep.now ?_) (λh2=>hgood (λj' hij _=>?_))
    ·exact(hbad j rfl (by omega) (by unfold leE;omega)).symm
    ·obtain rfl:j'=j:=by omega
     unfold leE
     omega
   ·obtain rfl:j'=j:=by omega
    unfold leE
    omega
theorem aJ0 (n:Int) (es:List E):Ep (λk=>aAn.f k n es) (·=gOk n es):=by
 simp only[aAn.f]
 refine Ep.bind (aY3 n es) ?_
 rintro _ rfl
 refine Ep.ite (λh=>?_) (λh=>Ep.now ?_)
 ·have h':aHx n es:=by simpa using h
  have h1:=h'.1
  obtain⟨m,rfl⟩:=Int.eq_ofNat_of_zero_le (a:=n) (by omega)
  exact aQe m es h' es.length 0 (by omega) (λj h hj=>by omega)
 ·have h':¬ aHx n es:=by simpa using h
  cases hg:gOk n es with
  | false=>rfl
  | true=>exact absurd (aE8.1 hg).1 h'
theorem aKh (a b c:Int):aDh.f a b c=some (decide (b<=a/\a<=c)):=by
 unfold aDh.f
 by_cases h:a≥b
 ·rw[if_pos h]
  have:(b<=a/\a<=c)↔a<=c:=⟨λx=>x.2,λx=>⟨h,x⟩⟩
  simp only[this]
 ·rw[if_neg h]
  have:¬ (b<=a/\a<=c):=λx=>h x.1
  simp only[this,decide_false]
theorem aR8 (n:Int) (es:List E) (hl:es.length<=12):∀ (d i:Nat),i+d=es.length->Ep (λk=>aBq.l0 k es (es.length:Int) (i:Int) n es) (·=decide (∀ e∈es.drop i,EOk n e)):=by
 intro d
 induction d with
 | zero =>
  intro i hi
  refine Ep.up ?_
  simp only[aBq.l0]
  refine Ep.neg (by omega) (Ep.now ?_)
  rw[List.drop_of_length_le (by omega)]
  simp
 | succ d ih =>
  intro i hi
  have hlt:i<es.length:=by omega
  have no:¬ EOk n es[i]->false=decide (∀ e∈es.drop i,EOk n e):=λh=>by simp only[aH3 hlt,h,false_and,decide_false]
  refine Ep.up ?_
  simp only[aBq.l0]
  refine Ep.pos (by omega) (Ep.pos (by omega) (Ep.pos (by omega) ?_))
  rw[aFu hlt]
  refine Ep.ite (λh=>Ep.now (no (by unfold EOk;omega))) (λh0=>?_)
  refine Ep.ite (λh=>Ep.now (no (by unfold EOk;omega))) (λh1=>?_)
  refine Ep.ite (λh=>Ep.now (no (by unfold EOk;omega))) (λh2=>?_)
  rw[wrap_succ (by omega)]
  refine(ih (i+1) (by omega)).mono ?_
  rintro _ rfl
  have:EOk n es[i]:=by unfold EOk;omega
  simp only[aH3 hlt,this,true_and]
theorem aZ6 (n:Int) (es:List E):Ep (λk=>aBq.f k n es) (·=decide (aHx n es)):=by
 simp only[aBq.f]
 refine Ep.aEr (aKh _ _ _) ?_
 refine Ep.ite (λh0=>?_) (λh0=>?_)
 ·have h0':1<=n/\n<=6:=by simpa using h0
  refine Ep.up ?_
  simp only[aBq.j0]
  refine Ep.ite (λh1=>Ep.now ?_) (λh1=>?_)
  ·have:¬ aHx n es:=by
    have:(es.length:Int)>12:=by simpa using h1
    unfold aHx
    omega
   simp[this]
  ·have hl:es.length<=12:=by
    have:¬ (es.length:Int)>12:=by simpa using h1
    omega
   refine(aR8 n es hl es.length 0 (by omega)).mono ?_
   rintro _ rfl
   rw[List.drop_zero]
   unfold aHx
   simp only[h0'.1,h0'.2,hl,true_and]
 ·have h0':¬ (1<=n/\n<=6):=by simpa using h0
  refine Ep.up ?_
  simp only[aBq.j0]
  refine Ep.pos (by simp) (Ep.now ?_)
  have:¬ aHx n es:=by
   unfold aHx
   omega
  simp[this]
theorem aKf (n:Int) (h0:0<=n) (h1:n<2^62):IntKind.i64.wrap n=n:=by rw[IntKind.wrap_i64];omega
theorem bDv {a b:Nat} (ha:a<2^62) (hb:b<2^62):Go.bits .or .i64 (a:Int) (b:Int)=((a ||| b:Nat):Int):=(bits_nat .i64 62 (by decide) aKf a b ha hb).2
theorem bH3 {a b:Nat} (ha:a<2^62) (hb:b<2^62):Go.bits .and .i64 (a:Int) (b:Int)=((a &&& b:Nat):Int):=(bits_nat .i64 62 (by decide) aKf a b ha hb).1
theorem aSk {a:Nat} (ha:a<62):shl .i64 1 (a:Int)=((2^a:Nat):Int):=by
 unfold shl
 have:(2:Int)^a<2^62:=by
  have:=Nat.pow_lt_pow_right (a:=2) (by decide) ha
  exact_mod_cast this
 rw[Int.toNat_natCast,Nat.min_eq_left (by show a<=64;omega),Int.one_mul,aKf _ (by have:=Int.pow_nonneg (n:=2) (m:=a) (by decide);omega) this]
 simp
theorem bF7 {m a:Nat} (ha:a<62):shr .i64 (m:Int) (a:Int)=((m/2^a:Nat):Int):=by
 unfold shr
 rw[Int.toNat_natCast,Nat.min_eq_left (by show a<=64;omega)]
 simp
theorem aMt {m:Nat} (hm:m<2^62) {a:Nat} (ha:a<62):Go.bits .and .i64 (shr .i64 (m:Int) (a:Int)) 1=1↔m.testBit a=true:=by
 rw[bF7 ha,show (1:Int)=((1:Nat):Int) from rfl,bH3 (Nat.lt_of_le_of_lt (Nat.div_le_self _ _) hm) (by decide)]
 rw[Nat.testBit_eq_decide_div_mod_eq,Nat.and_one_is_mod]
 generalize m/2^a=x
 simp only[decide_eq_true_eq]
 omega
theorem aRq {m a:Nat}:m.testBit a=true∨m.testBit a=false:=by cases m.testBit a<;>simp
theorem aY0 {m:Nat} {e:E} {n:Int} (hm:m<2^6) (he:EOk n e) (hn:n<=6):stepM m e<2^6:=by
 unfold EOk at he
 unfold stepM
 split
 ·apply Nat.or_lt_two_pow hm
  apply Nat.or_lt_two_pow
  ·exact Nat.pow_lt_pow_right (by decide) (by omega)
  ·exact Nat.pow_lt_pow_right (by decide) (by omega)
 ·exact hm
theorem bBr {n:Int} (hn:n<=6):∀ (es:List E),(∀ e∈es,EOk n e)->∀ {m:Nat},m<2^6->aG6 es m<2^6:=by
 intro es
 induction es with
 | nil=>intro _ m h;exact h
 | cons e r ih=>intro hes m h;exact ih (λx hx=>hes x (List.mem_cons_of_mem _ hx)) (aY0 h (hes e List.mem_cons_self) hn)
open Classical in
noncomputable def aHs (n:Int) (es:List E):Bool:=decide (Joined n es)
theorem aIh {n:Int} {es:List E}:aHs n es=true↔Joined n es:=by unfold aHs;simp
theorem aT9 (n:Int) (hn:n<=6) (es:List E) (hl:es.length<=1048576) (hes:∀ e∈es,EOk n e) (x8 x9:Int) {Q:Bool->Prop} (m0:Nat)
  (hk:Ep (λk=>aAy.l0 k n es ((aG6 es m0:Nat):Int) x8 (wrap64 (x9+1))) Q) :
  ∀ (d i:Nat) (m:Nat),i+d=es.length->m<2^6->aG6 (es.drop i) m=aG6 es m0->Ep (λk=>aAy.l1 k n es (m:Int) x8 x9 es (es.length:Int) (i:Int)) Q:=by
 intro d
 induction d with
 | zero =>
  intro i m hi hm hr
  refine Ep.up ?_
  simp only[aAy.l1]
  refine Ep.neg (by omega) ?_
  rw[List.drop_of_length_le (by omega)]at hr
  have e:m=aG6 es m0:=hr
  rw[e]
  exact hk
 | succ d ih =>
  intro i m hi hm hr
  have hlt:i<es.length:=by omega
  have hek:=hes es[i] (List.getElem_mem hlt)
  have he:=hek
  unfold EOk at he
  rw[List.drop_eq_getElem_cons hlt]at hr
  have hr':aG6 (es.drop (i+1)) (stepM m es[i])=aG6 es m0:=hr
  have hst:=aY0 hm hek hn
  obtain⟨a,ha⟩:=Int.eq_ofNat_of_zero_le he.1
  obtain⟨b,hb⟩:=Int.eq_ofNat_of_zero_le (a:=es[i].f1) (by omega)
  have ha6:a<6:=by omega
  have hb6:b<6:=by omega
  have bNp:m<2^62:=by omega
  have pa:2^a<2^6:=Nat.pow_lt_pow_right (by decide) ha6
  have pb:2^b<2^6:=Nat.pow_lt_pow_right (by decide) hb6
  have pab:2^a ||| 2^b<2^6:=Nat.or_lt_two_pow pa pb
  have hset:Go.bits .or .i64 (m:Int) (Go.bits .or .i64 (shl .i64 1 (a:Int)) (shl .i64 1 (b:Int)))=((m ||| (2^a ||| 2^b):Nat):Int):=by
   rw[aSk (by omega),aSk (by omega),bDv (by omega) (by omega),bDv (by omega) (by omega)]
  have hstep:(m.testBit a||m.testBit b)=true->stepM m es[i]=m ||| (2^a ||| 2^b):=by
   intro h
   unfold stepM
   rw[ha,hb]
   simp only[Int.ofNat_eq_natCast,Int.toNat_natCast]
   rw[if_pos h]
  have bOs:(m.testBit a||m.testBit b)=false->stepM m es[i]=m:=by
   intro h
   unfold stepM
   rw[ha,hb]
   simp only[Int.ofNat_eq_natCast,Int.toNat_natCast]
   rw[if_neg (by rw[h];simp)]
  refine Ep.up ?_
  simp only[aAy.l1]
  refine Ep.pos (by omega) (Ep.pos (by omega) (Ep.pos (by omega) ?_))
  rw[aFu hlt,ha,hb]
  refine Ep.pos (by omega) ?_
  rw[hset,wrap_succ (by omega)]
  refine Ep.ite (λh=>Ep.pos (by omega) ?_) (λh=>Ep.pos (by omega) (Ep.ite (λh2=>?_) (λh2=>?_)))
  ·have:=(aMt bNp (by omega)).1 h
   rw[<-hstep (by rw[this];rfl)]
   exact ih (i+1) _ (by omega) hst hr'
  ·have:=(aMt bNp (by omega)).1 h2
   rw[<-hstep (by rw[this];simp)]
   exact ih (i+1) _ (by omega) hst hr'
  ·have h1:m.testBit a=false:=by
    rcases aRq (m:=m) (a:=a) with x|x
    ·exact absurd ((aMt bNp (by omega)).2 x) h
    ·exact x
   have h3:m.testBit b=false:=by
    rcases aRq (m:=m) (a:=b) with x|x
    ·exact absurd ((aMt bNp (by omega)).2 x) h2
    ·exact x
   have:=bOs (by rw[h1,h3];rfl)
   rw[this]at hr'
   exact ih (i+1) _ (by omega) hm hr'
theorem aTa (n:Nat) (hn:1<=n/\n<=6) (es:List E) (hl:es.length<=1048576) (hes:∀ e∈es,EOk n e):∀ (d i m:Nat),i+d=n->m<2^6->aHa es d m=aHa es n 1->Ep (λk=>aAy.l0 k (n:Int) es (m:Int) (n:Int) (i:Int)) (·=aHs n es):=by
 intro d
 induction d with
 | zero =>
  intro i m hi hm hr
  refine Ep.up ?_
  simp only[aAy.l0]
  refine Ep.neg (by omega) (Ep.pos (by omega) (Ep.now ?_))
  have hr':m=aHa es n 1:=hr
  have hp:1<=2^n:=Nat.one_le_two_pow
  have hp2:2^n<=2^6:=Nat.pow_le_pow_right (by decide) hn.2
  rw[aSk (by omega),aCk (by omega) (by omega)]
  rw[Bool.eq_iff_iff,aIh,<-aIx hn.1 hes,<-hr']
  simp only[beq_iff_eq]
  omega
 | succ d ih =>
  intro i m hi hm hr
  refine Ep.up ?_
  simp only[aAy.l0]
  refine Ep.pos (by omega) ?_
  refine aT9 n (by omega) es hl hes _ _ m ?_ es.length 0 m (by omega) hm (by rw[List.drop_zero])
  rw[wrap_succ (by omega)]
  exact ih (i+1) _ (by omega) (bBr (by omega) es hes hm) hr
theorem bCl (n:Nat) (hn:1<=n/\n<=6) (es:List E) (hl:es.length<=1048576) (hes:∀ e∈es,EOk n e):Ep (λk=>aAy.f k (n:Int) es) (·=aHs n es):=by
 simp only[aAy.f]
 exact aTa n hn es hl hes n 0 1 (by omega) (by decide) rfl
end Cf
namespace P
def cmp_isNaN_int.f (a0:Int):Option (Bool):=some (a0 != a0)
theorem cmp_isNaN_int.calls (a0:Int) (r:Bool) (w:World) (h:cmp_isNaN_int.f a0=some r) :
  Calls Tryz.prog 84 #[.int .i64 a0] w λe w'=>e = .returned (.bool r)/\aB0 w w':=by
 have H:(some (a0 != a0))=some r:=h;clear h;obtain rfl:=zdI H;go_enter Tryz.func84,Tryz.ntmps84;go_wp2;go_ret;exact⟨zz6,by repeat(first|exact aB0.refl _|apply aB0.step)⟩
def cmp_Compare_int.f (a0:Int) (a1:Int):Option (Int):=(cmp_isNaN_int.f a0).bind λbO=>((cmp_isNaN_int.f a1).bind λaQ=>(if bO=true then(if aQ=true then(some 0) else(some (-1))) else(if aQ=true then(some 1) else(if a0<a1 then(some (-1)) else(if a0>a1 then(some 1) else(some 0))))))
theorem cmp_Compare_int.calls (a0:Int) (a1:Int) (r:Int) (w:World) (h:cmp_Compare_int.f a0 a1=some r) :
  Calls Tryz.prog 49 #[.int .i64 a0,.int .i64 a1] w λe w'=>e = .returned (.int .i64 r)/\aB0 w w':=by
 have H:((cmp_isNaN_int.f a0).bind λbO=>((cmp_isNaN_int.f a1).bind λaQ=>(if bO=true then(if aQ=true then(some 0) else(some (-1))) else(if aQ=true then(some 1) else(if a0<a1 then(some (-1)) else(if a0>a1 then(some 1) else(some 0)))))))=some r:=h;clear h;obtain⟨bO,A30,H⟩:=zO_ H;(try dsimp only at H);have A3:=zK_ A30;clear A30;obtain⟨aQ,A40,H⟩:=zO_ H;(try dsimp only at H);have A4:=zK_ A40;clear A40;by_cases c5:bO=true
 ·subst c5;rw[if_pos rfl]at H;by_cases c6:aQ=true
  ·subst c6;rw[if_pos rfl]at H;obtain rfl:=zdI H;go_enter Tryz.func49,Tryz.ntmps49;(go_wp2_with (first|((with_reducible refine aA5 (f:=84) rfl ?_);refine aB8 (some 8) rfl rfl Tryz.func84 (by kernel_rfl) rfl #[.int .i64 a0] rfl zz3 ?_;(with_reducible refine(cmp_isNaN_int.calls a0 true _ A3.out).mono ?_);rintro e w' ⟨rfl,⟨nd,rfl⟩⟩;refine⟨_,rfl,?_⟩)|((with_reducible refine aA5 (f:=84) rfl ?_);refine aB8 (some 10) rfl rfl Tryz.func84 (by kernel_rfl) rfl #[.int .i64 a1] rfl zz3 ?_;(with_reducible refine(cmp_isNaN_int.calls a1 true _ A4.out).mono ?_);rintro e w' ⟨rfl,⟨nd,rfl⟩⟩;refine⟨_,rfl,?_⟩)));go_ret;exact⟨zz6,by repeat(first|exact aB0.refl _|apply aB0.step)⟩
  replace c6:=zdB c6;subst c6;rw[if_neg (show ¬ (false=true) by decide)]at H;obtain rfl:=zdI H;go_enter Tryz.func49,Tryz.ntmps49;(go_wp2_with (first|((with_reducible refine aA5 (f:=84) rfl ?_);refine aB8 (some 8) rfl rfl Tryz.func84 (by kernel_rfl) rfl #[.int .i64 a0] rfl zz3 ?_;(with_reducible refine(cmp_isNaN_int.calls a0 true _ A3.out).mono ?_);rintro e w' ⟨rfl,⟨nd,rfl⟩⟩;refine⟨_,rfl,?_⟩)|((with_reducible refine aA5 (f:=84) rfl ?_);refine aB8 (some 10) rfl rfl Tryz.func84 (by kernel_rfl) rfl #[.int .i64 a1] rfl zz3 ?_;(with_reducible refine(cmp_isNaN_int.calls a1 false _ A4.out).mono ?_);rintro e w' ⟨rfl,⟨nd,rfl⟩⟩;refine⟨_,rfl,?_⟩)));go_ret;exact⟨zz6,by repeat(first|exact aB0.refl _|apply aB0.step)⟩
 replace c5:=zdB c5;subst c5;rw[if_neg (show ¬ (false=true) by decide)]at H;by_cases c7:aQ=true
 ·subst c7;rw[if_pos rfl]at H;obtain rfl:=zdI H;go_enter Tryz.func49,Tryz.ntmps49;(go_wp2_with (first|((with_reducible refine aA5 (f:=84) rfl ?_);refine aB8 (some 8) rfl rfl Tryz.func84 (by kernel_rfl) rfl #[.int .i64 a0] rfl zz3 ?_;(with_reducible refine(cmp_isNaN_int.calls a0 false _ A3.out).mono ?_);rintro e w' ⟨rfl,⟨nd,rfl⟩⟩;refine⟨_,rfl,?_⟩)|((with_reducible refine aA5 (f:=84) rfl ?_);refine aB8 (some 10) rfl rfl Tryz.func84 (by kernel_rfl) rfl #[.int .i64 a1] rfl zz3 ?_;(with_reducible refine(cmp_isNaN_int.calls a1 true _ A4.out).mono ?_);rintro e w' ⟨rfl,⟨nd,rfl⟩⟩;refine⟨_,rfl,?_⟩)));go_ret;exact⟨zz6,by repeat(first|exact aB0.refl _|apply aB0.step)⟩
 replace c7:=zdB c7;subst c7;rw[if_neg (show ¬ (false=true) by decide)]at H;by_cases c8:a0<a1
 ·rw[if_pos c8]at H;have gV:=zdY c8;clear c8;obtain rfl:=zdI H;go_enter Tryz.func49,Tryz.ntmps49;(go_wp2_with (first|((with_reducible refine aA5 (f:=84) rfl ?_);refine aB8 (some 8) rfl rfl Tryz.func84 (by kernel_rfl) rfl #[.int .i64 a0] rfl zz3 ?_;(with_reducible refine(cmp_isNaN_int.calls a0 false _ A3.out).mono ?_);rintro e w' ⟨rfl,⟨nd,rfl⟩⟩;refine⟨_,rfl,?_⟩)|((with_reducible refine aA5 (f:=84) rfl ?_);refine aB8 (some 10) rfl rfl Tryz.func84 (by kernel_rfl) rfl #[.int .i64 a1] rfl zz3 ?_;(with_reducible refine(cmp_isNaN_int.calls a1 false _ A4.out).mono ?_);rintro e w' ⟨rfl,⟨nd,rfl⟩⟩;refine⟨_,rfl,?_⟩)));go_ret;exact⟨zz6,by repeat(first|exact aB0.refl _|apply aB0.step)⟩
 rw[if_neg c8]at H;have gV:=zdN c8;clear c8;by_cases c9:a0>a1
 ·rw[if_pos c9]at H;have iN:decide (a1<a0)=true:=zdY c9;clear c9;obtain rfl:=zdI H;go_enter Tryz.func49,Tryz.ntmps49;(go_wp2_with (first|((with_reducible refine aA5 (f:=84) rfl ?_);refine aB8 (some 8) rfl rfl Tryz.func84 (by kernel_rfl) rfl #[.int .i64 a0] rfl zz3 ?_;(with_reducible refine(cmp_isNaN_int.calls a0 false _ A3.out).mono ?_);rintro e w' ⟨rfl,⟨nd,rfl⟩⟩;refine⟨_,rfl,?_⟩)|((with_reducible refine aA5 (f:=84) rfl ?_);refine aB8 (some 10) rfl rfl Tryz.func84 (by kernel_rfl) rfl #[.int .i64 a1] rfl zz3 ?_;(with_reducible refine(cmp_isNaN_int.calls a1 false _ A4.out).mono ?_);rintro e w' ⟨rfl,⟨nd,rfl⟩⟩;refine⟨_,rfl,?_⟩)));go_ret;exact⟨zz6,by repeat(first|exact aB0.refl _|apply aB0.step)⟩
 rw[if_neg c9]at H;have iN:decide (a1<a0)=false:=zdN c9;clear c9;obtain rfl:=zdI H;go_enter Tryz.func49,Tryz.ntmps49;(go_wp2_with (first|((with_reducible refine aA5 (f:=84) rfl ?_);refine aB8 (some 8) rfl rfl Tryz.func84 (by kernel_rfl) rfl #[.int .i64 a0] rfl zz3 ?_;(with_reducible refine(cmp_isNaN_int.calls a0 false _ A3.out).mono ?_);rintro e w' ⟨rfl,⟨nd,rfl⟩⟩;refine⟨_,rfl,?_⟩)|((with_reducible refine aA5 (f:=84) rfl ?_);refine aB8 (some 10) rfl rfl Tryz.func84 (by kernel_rfl) rfl #[.int .i64 a1] rfl zz3 ?_;(with_reducible refine(cmp_isNaN_int.calls a1 false _ A4.out).mono ?_);rintro e w' ⟨rfl,⟨nd,rfl⟩⟩;refine⟨_,rfl,?_⟩)));go_ret;exact⟨zz6,by repeat(first|exact aB0.refl _|apply aB0.step)⟩
def aEn.f (aD:Int) (nQ:Int) (pW:Int) (q4:Int):Option (Int):=(cmp_Compare_int.f aD pW).bind λa6=>(if a6=0 then((cmp_Compare_int.f nQ q4).bind λgJ=>(some gJ)) else(some a6))
theorem aEn.calls (aD:Int) (nQ:Int) (pW:Int) (q4:Int) (r:Int) (w:World) (h:aEn.f aD nQ pW q4=some r) :
  Calls Tryz.prog 52 #[.agg #[.int .i64 aD,.int .i64 nQ],.agg #[.int .i64 pW,.int .i64 q4]] w λe w'=>e = .returned (.int .i64 r)/\Below w.heap.size w w':=by
 have aV7:=Tryz.underlying46;have HB:=zK_ (Below.refl w.heap.size w);have H:((cmp_Compare_int.f aD pW).bind λa6=>(if a6=0 then((cmp_Compare_int.f nQ q4).bind λgJ=>(some gJ)) else(some a6)))=some r:=h;clear h;obtain⟨a6,A30,H⟩:=zO_ H;(try dsimp only at H);have A3:=zK_ A30;clear A30;by_cases c4:a6=0;rotate_left
 ·rw[if_neg c4]at H;have gW:(a6==0)=false:=beq_eq_false_iff_ne.mpr c4;have sZ:(a6 != 0)=true:=bne_iff_ne.mpr c4;obtain rfl:=zdI H;go_enter Tryz.func52,Tryz.ntmps52;(go_wp2_with (first|((with_reducible refine aAj (N:=2) rfl ?_);refine aAf ?hg (N:=2) ?hd (cs:=#[.int .i64 aD,.int .i64 nQ]) (t:=46) ?hr ?_;(case hd=>rfl);(case hg=>rfl);(case hr=>exact aD9);intro aE hg w11 hbox hb;have n_:=zA4 (aA1 zz2 hb) hbox (aDl:w.heap.size<=aE) (aDl:w.heap.size<=aE);clear HB;obtain⟨HB,aA,aDd,aD2⟩:=n_;clear hb hbox hg)|((with_reducible refine aAj (N:=3) rfl ?_);refine aAf ?hg (N:=3) ?hd (cs:=#[.int .i64 pW,.int .i64 q4]) (t:=46) ?hr ?_;(case hd=>rfl);(case hg=>rfl);(case hr=>exact aD9);intro aU hg w12 hbox hb;have n_:=zA7 (aA4 (g:=aE) (o:=.cells #[.int .i64 aD,.int .i64 nQ] 46 (0,0)) zz1 hb) (aA1 zz0 hb) hbox (aFw:w.heap.size<=aU) (aFw:w.heap.size<=aU) (by rw[hg];exact Nat.ne_of_lt (aCt (g:=aE) (o:=.cells #[.int .i64 aD,.int .i64 nQ] 46 (0,0)) zz1):aE≠aU) (by rw[hg];exact Nat.ne_of_gt (aCt (g:=aE) (o:=.cells #[.int .i64 aD,.int .i64 nQ] 46 (0,0)) zz1):aU≠aE);clear aA HB;obtain⟨aA,HB,aI,aGo,aFv,cC,dE⟩:=n_;clear hb hbox hg;have rH:=cC.out;have rF:=dE.out;have iG:=aCe aA;have iF:=aCd aA;have iE:=aA0 aA.out 0;have iD:=aA0 aA.out 1;have fR:=aCe aI;have fQ:=aCd aI;have fP:=aA0 aI.out 0;have fO:=aA0 aI.out 1)|((with_reducible refine aA5 (f:=49) rfl ?_);refine aB8 (some 10) rfl rfl Tryz.func49 (by kernel_rfl) rfl #[.int .i64 aD,.int .i64 pW] rfl zz3 ?_;(with_reducible refine(cmp_Compare_int.calls aD pW a6 _ A3.out).mono ?_);rintro e w' ⟨rfl,⟨nd,rfl⟩⟩;refine⟨_,rfl,?_⟩)));go_ret;exact⟨zz7,aMv⟩
 rw[if_pos c4]at H;have gW:(a6==0)=true:=beq_iff_eq.mpr c4;have sZ:(a6 != 0)=false:=bne_eq_false_iff_eq.mpr c4;clear c4;obtain⟨gJ,A50,H⟩:=zO_ H;(try dsimp only at H);have A5:=zK_ A50;clear A50;obtain rfl:=zdI H;go_enter Tryz.func52,Tryz.ntmps52;(go_wp2_with (first|((with_reducible refine aAj (N:=2) rfl ?_);refine aAf ?hg (N:=2) ?hd (cs:=#[.int .i64 aD,.int .i64 nQ]) (t:=46) ?hr ?_;(case hd=>rfl);(case hg=>rfl);(case hr=>exact aD9);intro aE hg w6 hbox hb;have n_:=zA4 (aA1 zz2 hb) hbox (aDl:w.heap.size<=aE) (aDl:w.heap.size<=aE);clear HB;obtain⟨HB,aA,aDd,aD2⟩:=n_;clear hb hbox hg)|((with_reducible refine aAj (N:=3) rfl ?_);refine aAf ?hg (N:=3) ?hd (cs:=#[.int .i64 pW,.int .i64 q4]) (t:=46) ?hr ?_;(case hd=>rfl);(case hg=>rfl);(case hr=>exact aD9);intro aU hg w7 hbox hb;have n_:=zA7 (aA4 (g:=aE) (o:=.cells #[.int .i64 aD,.int .i64 nQ] 46 (0,0)) zz1 hb) (aA1 zz0 hb) hbox (aFw:w.heap.size<=aU) (aFw:w.heap.size<=aU) (by rw[hg];exact Nat.ne_of_lt (aCt (g:=aE) (o:=.cells #[.int .i64 aD,.int .i64 nQ] 46 (0,0)) zz1):aE≠aU) (by rw[hg];exact Nat.ne_of_gt (aCt (g:=aE) (o:=.cells #[.int .i64 aD,.int .i64 nQ] 46 (0,0)) zz1):aU≠aE);clear aA HB;obtain⟨aA,HB,aI,aGo,aFv,cC,dE⟩:=n_;clear hb hbox hg;have QV:=cC.out;have QS:=dE.out;have g6:=aCe aA;have g5:=aCd aA;have g4:=aA0 aA.out 0;have g3:=aA0 aA.out 1;have eW:=aCe aI;have eV:=aCd aI;have eT:=aA0 aI.out 0;have eS:=aA0 aI.out 1)|((with_reducible refine aA5 (f:=49) rfl ?_);refine aB8 (some 10) rfl rfl Tryz.func49 (by kernel_rfl) rfl #[.int .i64 aD,.int .i64 pW] rfl zz3 ?_;(with_reducible refine(cmp_Compare_int.calls aD pW a6 _ A3.out).mono ?_);rintro e w' ⟨rfl,⟨nd,rfl⟩⟩;refine⟨_,rfl,?_⟩)|((with_reducible refine aA5 (f:=49) rfl ?_);refine aB8 (some 18) rfl rfl Tryz.func49 (by kernel_rfl) rfl #[.int .i64 nQ,.int .i64 q4] rfl zz3 ?_;(with_reducible refine(cmp_Compare_int.calls nQ q4 gJ _ A5.out).mono ?_);rintro e w' ⟨rfl,⟨nd,rfl⟩⟩;refine⟨_,rfl,?_⟩)));go_ret;exact⟨zz7,aMv⟩
end P
namespace Cf
open P
def bI6 (a b:Int):Int:=if a<b then -1 else if a>b then 1 else 0
theorem cmp_eq (a b:Int):cmp_Compare_int.f a b=some (bI6 a b):=by
 unfold cmp_Compare_int.f cmp_isNaN_int.f bI6
 simp
 split<;>(try split)<;>rfl
def bLp (a b:E):Int:=if bI6 a.f0 b.f0=0 then bI6 a.f1 b.f1 else bI6 a.f0 b.f0
theorem bGu (a b:E):aEn.f a.f0 a.f1 b.f0 b.f1=some (bLp a b):=by
 unfold aEn.f bLp
 rw[cmp_eq,cmp_eq]
 simp only[Option.bind_some]
 split<;>rfl
theorem bGt (a b:E):bLp a b<0↔¬ leE b a:=by
 unfold bLp bI6 leE
 by_cases h:a.f0<b.f0
 ·simp[h];try omega
 ·by_cases h2:a.f0>b.f0
  ·simp[h,h2];try omega
  ·by_cases h3:a.f1<b.f1
   ·simp[h,h2,h3];try omega
   ·by_cases h4:a.f1>b.f1
    ·simp[h,h2,h3,h4];try omega
    ·simp[h,h2,h3,h4];try omega
open Classical in
noncomputable def sortedB (es:List E):Bool:=decide (Sorted es)
theorem aI9 {es:List E}:sortedB es=true↔Sorted es:=by unfold sortedB;simp
def aFh (es:List E) (i:Nat):Prop:=∀ j,i<=j->(h:j+1<es.length)->leE es[j] es[j+1]
theorem aFh.all {es:List E} (h:aFh es 0):sortedB es=true:=aI9.2 (λj hj=>h j (Nat.zero_le _) hj)
theorem aFh.none {es:List E} {i:Nat} (h:i+1<es.length) (hn:¬ leE es[i] es[i+1]):sortedB es=false:=by
 cases hb:sortedB es with
 | false=>rfl
 | true=>exact absurd (aI9.1 hb i h) hn
theorem aFh.down {es:List E} {i:Nat} (h:aFh es (i+1)) (hi:i+1<es.length) (hl:leE es[i] es[i+1]):aFh es i:=by
 intro j hj hjl
 by_cases e:j=i
 ·subst e;exact hl
 ·exact h j (by omega) hjl
theorem aZ2 (es:List E) (A:Option Addr) (c:Nat) (w:World) (hr:Kd.C k46 w A es.length es) (hc:es.length<=c) :
  Calls Tryz.prog 51 #[.slice A es.length c,.func (.func 52) #[] #[]] w λe w'=>e = .returned (.bool (sortedB es))/\Below w.heap.size w w':=by
 have hlen:=hr.2.1
 have HR:=aA2.mk hr
 have HL:=aA2.mk hlen
 clear hr hlen
 have HB:=aA2.mk (Below.refl w.heap.size w)
 go_enter Tryz.func51,Tryz.ntmps51
 go_wp2
 go_loopw [5] (λv wr=>∃ i:Int,v = .int .i64 i/\aA2 (-1<=i/\i<es.length/\aFh es i.toNat)/\aA2 (Below w.heap.size w wr)) (λv _=>(intOf v+1).toNat)
 case atStart=>exact⟨(es.length:Int)-1,by rw[aCk (by have:=HL.out;omega) (by have:=HL.out;omega)],⟨by omega,by omega,λj hj hjl=>by omega⟩,HB⟩
 case round =>
  obtain⟨i,rfl,HI,HB⟩:=hrel
  by_cases h0:0<i
  ·obtain⟨j,hij⟩:∃ j:Nat,i=(j:Int)+1:=⟨(i-1).toNat,by omega⟩
   have hj:=HI.out.2.1
   have hl:=HL.out
   have hw:wrap64 (i-1)=(j:Int):=by rw[aCk (by omega) (by omega)];omega
   have p1:0<=i:=by omega
   have p2:0<=wrap64 (i-1):=by omega
   have q2:wrap64 (i-1)<(es.length:Int):=by omega
   obtain⟨ad,e,hx0,hx1⟩:=aDo HR.out i p1 hj
   cases e
   obtain⟨ad',e,hy0,hy1⟩:=aDo HR.out (wrap64 (i-1)) p2 q2
   cases e
   replace hx0:=(HB.out.cell (World.block_lt_of_cell? w _ hx0)).trans hx0
   replace hx1:=(HB.out.cell (World.block_lt_of_cell? w _ hx1)).trans hx1
   replace hy0:=(HB.out.cell (World.block_lt_of_cell? w _ hy0)).trans hy0
   replace hy1:=(HB.out.cell (World.block_lt_of_cell? w _ hy1)).trans hy1
   have c0:decide (0<i)=true:=zdY h0
   replace p1:=eq_true p1
   have q1:=eq_true hj
   replace p2:=eq_true p2
   replace q2:=eq_true q2
   have HW:=aA2.mk hw
   have HIJ:=aA2.mk hij
   clear hj hl hw hij h0
   go_wp2
   go_still_tail 10,(by kernel_rfl)
   simp only[aFm]
   repeat still_step
   refine wpStill_nil ?_
   change wpList _ _ _ _ _ wr.drew
   have HB':=aA2.mk (aAx HB.out)
   clear HB hx0 hx1 hy0 hy1
   generalize wr.drew=w2 at HB' ⊢
   have HX:=aA2.mk (bGu (aA3 es i) (aA3 es (wrap64 (i-1))))
   have HC:=aA2.mk (bGt (aA3 es i) (aA3 es (wrap64 (i-1))))
   generalize bLp (aA3 es i) (aA3 es (wrap64 (i-1)))=z at HX HC
   have HE:aA2 (∃ hj:j+1<es.length,aA3 es i=es[j+1]/\aA3 es (wrap64 (i-1))=es[j]):=by
    have hj:j+1<es.length:=by
     have:=HI.out.2.1
     have:=HIJ.out
     omega
    have e1:i=((j+1:Nat):Int):=by have:=HIJ.out;omega
    refine⟨hj,?_,?_⟩
    ·rw[e1,aFu hj]
    ·rw[HW.out,aFu (by omega)]
   by_cases hz:z<0
   ·have cz:decide (z<0)=true:=zdY hz
    have HZ:=aA2.mk hz
    clear hz
    go_wp2_with fail
    refine(aEn.calls _ _ _ _ z _ HX.out).mono ?_
    rintro e w3 ⟨rfl,hb⟩
    go_wp2
    go_ret
    obtain⟨hj,e1,e2⟩:=HE.out
    have hs:=aFh.none hj (by rw[<-e1,<-e2];exact HC.out.1 HZ.out)
    exact⟨by rw[hs];rfl,aA1 HB'.out hb⟩
   ·have cz:decide (z<0)=false:=zdN hz
    have HZ:=aA2.mk hz
    clear hz
    go_wp2_with fail
    refine(aEn.calls _ _ _ _ z _ HX.out).mono ?_
    rintro e w3 ⟨rfl,hb⟩
    have HB2:=aA2.mk (aA1 HB'.out hb)
    clear hb
    go_wp2
    go_roundw
    case rel =>
     have hi:=HI.out
     have hw:=HW.out
     have hij:=HIJ.out
     refine⟨wrap64 (i-1),rfl,⟨by omega,by omega,?_⟩,HB2⟩
     obtain⟨hj,e1,e2⟩:=HE.out
     have hle:leE es[j] es[j+1]:=by
      rw[<-e1,<-e2]
      apply Classical.byContradiction
      intro hn
      have h1:=HC.out.2 hn
      have h2:=HZ.out
      omega
     rw[hw,Int.toNat_natCast]
     refine aFh.down ?_ hj hle
     have:=hi.2.2
     rw[hij,show ((j:Int)+1).toNat=j+1 by omega]at this
     exact this
    case measure =>
     have hi:=HI.out
     have hw:=HW.out
     have hij:=HIJ.out
     simp[intOf]
     omega
  ·have c0:decide (0<i)=false:=zdN h0
   have HZ:=aA2.mk h0
   clear h0
   go_wp2
   go_ret
   have:=HI.out
   have h0:=HZ.out
   have hs:aFh es i.toNat:=this.2.2
   rw[show i.toNat=0 by omega]at hs
   have ha:=hs.all
   exact⟨by rw[ha];rfl,HB.out⟩
end Cf
namespace P
def aCq.f (aD:Int) (aC:List (S46)):Option Bool:=some (Cf.gOk aD aC)
theorem aCq.calls (aD:Int) (aH:Option Addr) (aG:Nat) (aC:List (S46)) (r:Bool) (w:World) (hr0_1:Kd.C k46 w aH aC.length aC) (hc0_1:aC.length<=aG) (h:aCq.f aD aC=some r) :
  Calls Tryz.prog 30 #[.agg #[.int .i64 aD,.slice aH aC.length aG]] w λe w'=>e = .returned (.bool r)/\Below w.heap.size w w':=by
 obtain rfl:=zdI h;clear h;obtain⟨k1,hk1⟩:=(Cf.aZ6 aD aC).rounds;have HR:=zK_ hr0_1;have HK1:=zK_ hk1;clear hr0_1 hk1;go_enter Tryz.func30,Tryz.ntmps30;have HB:=zK_ (aB7 (Below.refl w.heap.size w) (.cells #[.int .i64 aD,.slice aH aC.length aG] 25));have BK:=zK_ (heap_alloc_new w (.cells #[.int .i64 aD,.slice aH aC.length aG] 25));by_cases he:Cf.aHx aD aC;rotate_left
 ·have HE:=zK_ he;replace HK1:=zK_ (HK1.out.trans (congrArg some (zdN he)));clear he;(go_wp2_with fail);refine(aBq.calls k1 _ _ _ aC false _ (Kd.aC4 HR.out HB.out) hc0_1 HK1.out).mono ?_;rintro e w1 ⟨rfl,hb⟩;have HB1:=zK_ (aA1 HB.out hb);clear hb;go_wp2;go_ret
  have hg:Cf.gOk aD aC=false:=by
   cases hb:Cf.gOk aD aC with
   | false=>rfl
   | true=>exact absurd (Cf.aE8.1 hb).1 HE.out
  exact⟨by rw[hg];rfl,HB1.out⟩
 have HE:=zK_ he;replace HK1:=zK_ (HK1.out.trans (congrArg some (zdY he)));clear he;(go_wp2_with fail);refine(aBq.calls k1 _ _ _ aC true _ (Kd.aC4 HR.out HB.out) hc0_1 HK1.out).mono ?_;rintro e w1 ⟨rfl,hb⟩;have HB1:=zK_ (aA1 HB.out hb);have uZ:=zK_ (aA4 BK.out hb);clear hb;have hz0:w1.cell? ⟨w.heap.size,0,none⟩=some (.int .i64 aD):=(aAc uZ.out 0).trans rfl;have hz1:w1.cell? ⟨w.heap.size,1,none⟩=some (.slice aH aC.length aG):=(aAc uZ.out 1).trans rfl;(go_wp2_with fail);have HS:=zK_ (Cf.aZ2 aC aH aG w1 (Kd.aC4 HR.out HB1.out) hc0_1);by_cases hs:Cf.Sorted aC;rotate_left
 ·have hsb:Cf.sortedB aC=false:=by
   cases hb:Cf.sortedB aC with
   | false=>rfl
   | true=>exact absurd (Cf.aI9.1 hb) hs
  rw[hsb]at HS;have HSo:=zK_ hs;clear hs hsb;refine HS.out.mono ?_;rintro e w2 ⟨rfl,hb⟩;have HB2:=zK_ (aA1 HB1.out hb);clear hb hz0 hz1;go_wp2;go_ret
  have hg:Cf.gOk aD aC=false:=by
   cases hb:Cf.gOk aD aC with
   | false=>rfl
   | true=>exact absurd (Cf.aE8.1 hb).2.1 HSo.out
  exact⟨by rw[hg];rfl,HB2.out⟩
 have HSo:=zK_ hs;rw[Cf.aI9.2 hs]at HS;clear hs;refine HS.out.mono ?_;rintro e w2 ⟨rfl,hb⟩;have HB2:=zK_ (aA1 HB1.out hb);have QP:=zK_ (aA4 uZ.out hb);clear hb hz0 hz1;have hz0:w2.cell? ⟨w.heap.size,0,none⟩=some (.int .i64 aD):=(aAc QP.out 0).trans rfl;have hz1:w2.cell? ⟨w.heap.size,1,none⟩=some (.slice aH aC.length aG):=(aAc QP.out 1).trans rfl;(go_wp2_with fail);obtain⟨h1,h6,hl,hes⟩:=HE.out;obtain⟨n,rfl⟩:=Int.eq_ofNat_of_zero_le (a:=aD) (by omega);obtain⟨k2,hk2⟩:=(Cf.bCl n ⟨by omega,by omega⟩ aC (by omega) hes).rounds;refine(aAy.calls k2 _ _ _ aC (Cf.aHs n aC) _ (Kd.aC4 HR.out HB2.out) hc0_1 hk2).mono ?_;rintro e w3 ⟨rfl,hd⟩;have HB3:=zK_ (aA1 HB2.out hd);clear hd hk2 h1 h6 hl hes
 have hg:Cf.gOk n aC=Cf.aHs n aC:=by
  rw[Bool.eq_iff_iff,Cf.aE8,Cf.aIh];exact⟨λh=>h.2.2,λh=>⟨HE.out,HSo.out,h⟩⟩
 have HG:=zK_ hg;clear hg;generalize Cf.aHs n aC=z at HG ⊢;cases z
 ·go_wp2;go_ret;exact⟨by rw[HG.out];rfl,HB3.out⟩
 ·go_wp2;go_ret;exact⟨by rw[HG.out];rfl,HB3.out⟩
def aBm.l0:Nat->Int->Int->List Int->Int->Int->Option (Bool)
 | 0,_,_,_,_,_=>none
 | k+1,x1,x2,x9,iR,eZ=>if eZ<iR then(if 0<=eZ then(if eZ<(x9.length:Int) then((aDh.f (rd x9 eZ) x1 x2).bind λaQ=>(if aQ=true then(aBm.l0 k x1 x2 x9 iR (wrap64 (eZ+1))) else(some false))) else(none)) else(none)) else(some true)
def aBm.f (k:Nat) (l0:List Int) (a1:Int) (a2:Int):Option (Bool):=aBm.l0 k a1 a2 l0 (l0.length:Int) 0
theorem aBm.aBp:∀ k,(∀ y0 y1 y2 y3 y4,LeO (aBm.l0 k y0 y1 y2 y3 y4) (aBm.l0 (k+1) y0 y1 y2 y3 y4))
 | 0=>λ_ _ _ _ _ r h=>by simp[aBm.l0]at h
 | k+1=>by
  have ih0:=aBm.aBp k
  ·intro y0 y1 y2 y3 y4
   unfold aBm.l0
   exact zm0
theorem aBm.mono:∀ a0 a1 a2 k,LeO (aBm.f k a0 a1 a2) (aBm.f (k+1) a0 a1 a2):=by
 intro a0 a1 a2 k;have ih0:=aBm.aBp k;unfold aBm.f;exact zm0
theorem aBm.calls (k:Nat) (A0:Option Addr) (c0:Nat) (l0:List Int) (a1:Int) (a2:Int) (r:Bool) (w:World) (hr0:Kd.C (Kd.int .i64) w A0 l0.length l0) (hc0:l0.length<=c0) (h:aBm.f k l0 a1 a2=some r) :
  Calls Tryz.prog 85 #[.slice A0 l0.length c0,.int .i64 a1,.int .i64 a2] w λe w'=>e = .returned (.bool r)/\aB0 w w':=by
 have HR0:=zK_ hr0;have HC0:=zK_ hc0;clear hr0 hc0;have H:(aBm.l0 k a1 a2 l0 (l0.length:Int) 0)=some r:=h;clear h;have H':=zK_ H;clear H;go_enter Tryz.func85,Tryz.ntmps85;go_wp2;(go_loopg [11] k (λkq v11 w'=>∃ (aM:Int),v11 = .int .i64 aM/\aA2 (aBm.l0 kq a1 a2 l0 (l0.length:Int) aM=some r)/\aA2 (kq<=k)/\aB0 w w'));case atStart=>exact⟨(0),zz6,H',⟨Nat.le_refl _⟩,by repeat(first|exact aB0.refl _|apply aB0.step)⟩
 case round =>
  clear H';(try clear p2);obtain⟨aM,rfl,HA,HK1,⟨m1,rfl⟩⟩:=hrel
  cases gk with
  | zero=>exact absurd HA.out (by simp[aBm.l0])
  | succ k1 =>
   have H:=HA.out;clear HA;simp only[aBm.l0]at H;by_cases c4:aM<(l0.length:Int);rotate_left
   ·rw[if_neg c4]at H;have gW:=zdN c4;clear c4;obtain rfl:=zdI H;go_wp2;go_ret;exact⟨zz6,by repeat(first|exact aB0.refl _|apply aB0.step)⟩
   rw[if_pos c4]at H;have gW:=zdY c4;clear c4;by_cases c5:0<=aM;rotate_left
   ·rw[if_neg c5]at H;exact absurd H (by simp)
   rw[if_pos c5]at H;have fD:=zdY c5;clear c5;by_cases c6:aM<(l0.length:Int);rotate_left
   ·rw[if_neg c6]at H;exact absurd H (by simp)
   rw[if_pos c6]at H;have iO:=zdY c6;clear c6;obtain⟨aQ,A70,H⟩:=zO_ H;(try dsimp only at H);have A7:=zK_ A70;clear A70;by_cases c8:aQ=true;rotate_left
   ·replace c8:=zdB c8;subst c8;rw[if_neg (show ¬ (false=true) by decide)]at H;obtain rfl:=zdI H;have aDu:0<=(aM:Int):=zdT zz4;have aDt:aM<(l0.length:Int):=zdT zz4;obtain⟨d7,aFt,bM⟩:=Kd.aCl HR0.out aM aDu aDt;cases aFt;replace aDu:=eq_true aDu;replace aDt:=eq_true aDt;(go_wp2_with (first|((with_reducible refine aA5 (f:=42) rfl ?_);refine aB8 (some 18) rfl rfl Tryz.func42 (by kernel_rfl) rfl #[.int .i64 (rd l0 aM),.int .i64 a1,.int .i64 a2] rfl zz3 ?_;(with_reducible refine(aDh.calls (rd l0 aM) a1 a2 false _ A7.out).mono ?_);rintro e w' ⟨rfl,⟨nd,rfl⟩⟩;refine⟨_,rfl,?_⟩)));go_ret;exact⟨zz6,by repeat(first|exact aB0.refl _|apply aB0.step)⟩
   subst c8;rw[if_pos rfl]at H;have H':=zK_ H;clear H;have aDu:0<=(aM:Int):=zdT zz4;have aDt:aM<(l0.length:Int):=zdT zz4;obtain⟨d7,aFt,bM⟩:=Kd.aCl HR0.out aM aDu aDt;cases aFt;replace aDu:=eq_true aDu;replace aDt:=eq_true aDt;(go_wp2_with (first|((with_reducible refine aA5 (f:=42) rfl ?_);refine aB8 (some 18) rfl rfl Tryz.func42 (by kernel_rfl) rfl #[.int .i64 (rd l0 aM),.int .i64 a1,.int .i64 a2] rfl zz3 ?_;(with_reducible refine(aDh.calls (rd l0 aM) a1 a2 true _ A7.out).mono ?_);rintro e w' ⟨rfl,⟨nd,rfl⟩⟩;refine⟨_,rfl,?_⟩)));go_roundg k1;(case measure=>have:=HK1.out;omega);case rel=>exact⟨(wrap64 (aM+1)),zz6,H',⟨aHl⟩,by repeat(first|exact aB0.refl _|apply aB0.step)⟩
def aBv.l0:Nat->List (List Int)->List (List Int)->Int->Int->Option (Bool)
 | 0,_,_,_,_=>none
 | k+1,x0,x8,x9,iR=>if iR<x9 then(if 0<=iR then(if iR<(x8.length:Int) then(if((aBt x8 iR).length:Int)=(x0.length:Int) then((aBm.f k (aBt x8 iR) (-500) 500).bind λaQ=>(if aQ=true then(aBv.l0 k x0 x8 x9 (wrap64 (iR+1))) else(some false))) else(some false)) else(none)) else(none)) else(some true)
def aBv.f (k:Nat) (l0:List (List Int)):Option (Bool):=if(l0.length:Int)>6 then(some false) else(aBv.l0 k l0 l0 (l0.length:Int) 0)
theorem aBv.aBp:∀ k,(∀ y0 y1 y2 y3,LeO (aBv.l0 k y0 y1 y2 y3) (aBv.l0 (k+1) y0 y1 y2 y3))
 | 0=>λ_ _ _ _ r h=>by simp[aBv.l0]at h
 | k+1=>by
  have ih0:=aBv.aBp k
  ·intro y0 y1 y2 y3
   unfold aBv.l0
   exact bQg
theorem aBv.mono:∀ a0 k,LeO (aBv.f k a0) (aBv.f (k+1) a0):=by
 intro a0 k;have ih0:=aBv.aBp k;unfold aBv.f;exact bQg
theorem aBv.calls (k:Nat) (A0:Option Addr) (c0:Nat) (l0:List (List Int)) (r:Bool) (w:World) (hr0:Kd.C (Kd.slice 3 (Kd.int .i64)) w A0 l0.length l0) (hc0:l0.length<=c0) (h:aBv.f k l0=some r) :
  Calls Tryz.prog 54 #[.slice A0 l0.length c0] w λe w'=>e = .returned (.bool r)/\aB0 w w':=by
 have HR0:=zK_ hr0;have HC0:=zK_ hc0;clear hr0 hc0;have H:(if(l0.length:Int)>6 then(some false) else(aBv.l0 k l0 l0 (l0.length:Int) 0))=some r:=h;clear h;by_cases c2:(l0.length:Int)>6
 ·rw[if_pos c2]at H;have mH:decide (6<(l0.length:Int))=true:=zdY c2;have pJ:decide (6<l0.length)=true:=zdY (by omega);clear c2;obtain rfl:=zdI H;go_enter Tryz.func54,Tryz.ntmps54;go_wp2;go_ret;exact⟨zz6,by repeat(first|exact aB0.refl _|apply aB0.step)⟩
 rw[if_neg c2]at H;have mH:decide (6<(l0.length:Int))=false:=zdN c2;have pJ:decide (6<l0.length)=false:=zdN (by omega);clear c2;have H':=zK_ H;clear H;go_enter Tryz.func54,Tryz.ntmps54;go_wp2;(go_loopg [10] k (λkq v10 w'=>∃ (cJ:Int),v10 = .int .i64 cJ/\aA2 (aBv.l0 kq l0 l0 (l0.length:Int) cJ=some r)/\aA2 (kq<=k)/\aB0 w w'));case atStart=>exact⟨(0),zz6,H',⟨Nat.le_refl _⟩,by repeat(first|exact aB0.refl _|apply aB0.step)⟩
 case round =>
  clear H';(try clear c2);(try clear mH);(try clear pJ);(try clear p2);obtain⟨cJ,rfl,HA,HK1,⟨m1,rfl⟩⟩:=hrel
  cases gk with
  | zero=>exact absurd HA.out (by simp[aBv.l0])
  | succ k1 =>
   have H:=HA.out;clear HA;simp only[aBv.l0]at H;by_cases c3:cJ<(l0.length:Int);rotate_left
   ·rw[if_neg c3]at H;have gX:=zdN c3;(try(have lN:=gX;first|rw[d5]at lN|rw[<-d5]at lN));clear c3;obtain rfl:=zdI H;go_wp2;go_ret;exact⟨zz6,by repeat(first|exact aB0.refl _|apply aB0.step)⟩
   rw[if_pos c3]at H;have gX:=zdY c3;clear c3;by_cases c4:0<=cJ;rotate_left
   ·rw[if_neg c4]at H;exact absurd H (by simp)
   rw[if_pos c4]at H;have gW:=zdY c4;clear c4;by_cases c5:cJ<(l0.length:Int);rotate_left
   ·rw[if_neg c5]at H;exact absurd H (by simp)
   rw[if_pos c5]at H;have fD:=zdY c5;clear c5;by_cases c6:((aBt l0 cJ).length:Int)=(l0.length:Int);rotate_left
   ·rw[if_neg c6]at H;have iO:(((aBt l0 cJ).length:Int)==(l0.length:Int))=false:=beq_eq_false_iff_ne.mpr c6;have nP:(((aBt l0 cJ).length:Int) != (l0.length:Int))=true:=bne_iff_ne.mpr c6;(have yH:((aBt l0 cJ).length==l0.length)=false:=by first|simpa using c6|(simp at c6 ⊢;omega));obtain rfl:=zdI H;have aDu:0<=(cJ:Int):=zdT zz4;have aDt:cJ<(l0.length:Int):=zdT zz4;obtain⟨d7,A101_0,c101_0,aFt,bM,d5,hi101_0⟩:=aH8 HR0.out cJ aDu aDt;cases aFt;have HR101_0:=zK_ hi101_0;have HC101_0:=zK_ d5;clear hi101_0 d5;replace aDu:=eq_true aDu;replace aDt:=eq_true aDt;go_wp2;go_ret;exact⟨zz6,by repeat(first|exact aB0.refl _|apply aB0.step)⟩
   rw[if_pos c6]at H;have iO:(((aBt l0 cJ).length:Int)==(l0.length:Int))=true:=beq_iff_eq.mpr c6;have nP:(((aBt l0 cJ).length:Int) != (l0.length:Int))=false:=bne_eq_false_iff_eq.mpr c6;(have yH:((aBt l0 cJ).length==l0.length)=true:=by first|simpa using c6|(simp at c6 ⊢;omega));clear c6;obtain⟨aQ,A70,H⟩:=zO_ H;(try dsimp only at H);have A7:=zK_ A70;clear A70;by_cases c8:aQ=true;rotate_left
   ·replace c8:=zdB c8;subst c8;rw[if_neg (show ¬ (false=true) by decide)]at H;obtain rfl:=zdI H;have aDu:0<=(cJ:Int):=zdT zz4;have aDt:cJ<(l0.length:Int):=zdT zz4;obtain⟨d7,A101_0,c101_0,aFt,bM,d5,hi101_0⟩:=aH8 HR0.out cJ aDu aDt;cases aFt;have HR101_0:=zK_ hi101_0;have HC101_0:=zK_ d5;clear hi101_0 d5;replace aDu:=eq_true aDu;replace aDt:=eq_true aDt;(go_wp2_with (first|(go_at_call 85;(with_reducible refine(aBm.calls k1 _ _ (aBt l0 cJ) (-500) 500 false _ ?side1 ?side2 A7.out).mono ?_);(case side1=>repeat(first|exact HR101_0.out|(with_reducible refine Kd.aCy ?_ _)|(with_reducible refine Kd.aCx ?_ _)|(with_reducible refine Kd.aDf ?_)));(case side2=>exact HC101_0.out);rintro e w' ⟨rfl,⟨nd,rfl⟩⟩)));go_ret;exact⟨zz6,by repeat(first|exact aB0.refl _|apply aB0.step)⟩
   subst c8;rw[if_pos rfl]at H;have H':=zK_ H;clear H;have aDu:0<=(cJ:Int):=zdT zz4;have aDt:cJ<(l0.length:Int):=zdT zz4;obtain⟨d7,A101_0,c101_0,aFt,bM,d5,hi101_0⟩:=aH8 HR0.out cJ aDu aDt;cases aFt;have HR101_0:=zK_ hi101_0;have HC101_0:=zK_ d5;clear hi101_0 d5;replace aDu:=eq_true aDu;replace aDt:=eq_true aDt;(go_wp2_with (first|(go_at_call 85;(with_reducible refine(aBm.calls k1 _ _ (aBt l0 cJ) (-500) 500 true _ ?side1 ?side2 A7.out).mono ?_);(case side1=>repeat(first|exact HR101_0.out|(with_reducible refine Kd.aCy ?_ _)|(with_reducible refine Kd.aCx ?_ _)|(with_reducible refine Kd.aDf ?_)));(case side2=>exact HC101_0.out);rintro e w' ⟨rfl,⟨nd,rfl⟩⟩)));go_roundg k1;(case measure=>have:=HK1.out;omega);case rel=>exact⟨(wrap64 (cJ+1)),zz6,H',⟨aHl⟩,by repeat(first|exact aB0.refl _|apply aB0.step)⟩
end P
end Go.Proofs.YtnbljcgdgblgoaaGreat
