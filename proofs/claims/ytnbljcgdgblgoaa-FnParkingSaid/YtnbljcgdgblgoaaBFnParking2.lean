/- A part of the proof of FnParking. -/
import Derived.Test.YtnbljcgdgblgoaaBFnParking1
import Derived.Test.YtnbljcgdgblgoaaBFnParking0
import Derived.Deep.LoopGhost
import Derived.Test.YtnbljcgdgblgoaaBFnParkingWWords
import Derived.Test.YtnbljcgdgblgoaaBFnParkingWMore
import Derived.Laws.BitsLemmas
import Derived.StillTailTactics
set_option linter.unusedVariables false
set_option linter.unusedSimpArgs false
set_option maxHeartbeats 8000000
set_option maxRecDepth 1000000
section
namespace Go.Proofs.Ytnbljcgdgblgoaa.P
open Go.RowKit Go.Proofs.YtnbljcgdgblgoaaW.PrintWords Go.Proofs.YtnbljcgdgblgoaaW.PrintLast Go.Proofs.YtnbljcgdgblgoaaW.PrintMore
attribute [local go_sem] aCt aCr aDb aDa aCa aC9 aCs aCq
def aB5.f (k:Nat) (aD:Int) (aC:List S57) (a1:Int):Option (List (List Int)):=(aAi.f k aD aC).bind fun t=>if t=true then(aBx.f a1 0 (wrap64 (aD-1))).bind fun u=>if u=true then(aAq.f k aD aC).bind fun L=>if ∀ r∈L,r.length≤1000000 then Cf.redF a1 L else none else some [] else some []
theorem aB5.mono:∀ a0 a1 a2 k,LeO (aB5.f k a0 a1 a2) (aB5.f (k+1) a0 a1 a2):=by
 intro a0 a1 a2 k;unfold aB5.f;exact LeO.bind (aAi.mono _ _ k) fun t=>LeO.ite (LeO.bind (LeO.refl _) fun u=>LeO.ite (LeO.bind (aAq.mono _ _ k) fun _=>LeO.refl _) (LeO.refl _)) (LeO.refl _)
def aB5.T8:Bool×List (List Nat×List Nat):=(true,[([],[]),([],[]),([],[]),([],[]),([2,3],[2,3]),([1,4],[1,4]),([],[]),([],[]),([7],[7]),([6,8],[6,8]),([5,9,5],[5,9]),([10],[10]),([0,11,10],[0,11]),([12,12,0,1,2,3,4,5,6,7,8,9,10,11,12],[0,12])])
def aB5.B8:List Nat:=[0,0,0,0,12,30,0,0,128,448,1022,2046,4095,8191]
theorem aB5.tab8:aFp .any (opsOf Try.f107 8)=aB5.T8:=by kernel_rfl
theorem aB5.bits8:aEa aB5.T8.2 aB5.B8=true:=by kernel_rfl
theorem aB5.calls (k:Nat) (aD:Int) (aI:Option Addr) (aG:Nat) (aC:List S57) (a1:Int) (r:List (List Int)) (w:World) (hr0_1:Kd.C k57 w aI aC.length aC) (hc0_1:aC.length≤aG) (h:aB5.f k aD aC a1=some r) :
  Calls Try.prog 107 #[.agg #[.int .i64 aD,.slice aI aC.length aG],.int .i64 a1] w fun e w'=>∃ v0_:Value,e = .returned (v0_)∧Kd.S (Kd.slice 3 (Kd.int .i64)) 26 w' w.heap.size (fun _=>True) v0_ r∧Below w.heap.size w w':=by
 have hu30:=Try.underlying25;have HR:=zK_ hr0_1;have HC:=zK_ hc0_1;clear hr0_1 hc0_1;have H:((aAi.f k aD aC).bind fun t=>if t=true then(aBx.f a1 0 (wrap64 (aD-1))).bind fun u=>if u=true then(aAq.f k aD aC).bind fun L=>if ∀ r∈L,r.length≤1000000 then Cf.redF a1 L else none else some [] else some [])=some r:=h;clear h;obtain⟨t,hv,H⟩:=zO_ H;have HV:=zK_ hv;clear hv;have HB:=zK_ (aAz (Below.refl w.heap.size w) (.cells #[.int .i64 aD,.slice aI aC.length aG] 25));have BK:=zK_ (heap_alloc_new w (.cells #[.int .i64 aD,.slice aI aC.length aG] 25))
 cases t with
 | false =>
  obtain rfl:=Option.some.inj H;clear H;go_enter Try.func107,Try.ntmps107;(go_wp2_with fail);refine(aAi.calls k _ _ _ aC false _ (Kd.C_below HR.out HB.out) HC.out HV.out).mono ?_;rintro e w1 ⟨rfl,hb⟩;have HB1:=zK_ (aA2 HB.out hb);clear hb;go_wp2;go_ret;exact⟨_,rfl,Kd.S_nil _ _ _ _ _,HB1.out⟩
 | true =>
  rw[if_pos rfl]at H;obtain⟨u,hu,H⟩:=zO_ H;have HU:=zK_ hu;clear hu
  cases u with
  | false =>
   obtain rfl:=Option.some.inj H;clear H;go_enter Try.func107,Try.ntmps107;(go_wp2_with fail);refine(aAi.calls k _ _ _ aC true _ (Kd.C_below HR.out HB.out) HC.out HV.out).mono ?_;rintro e w1 ⟨rfl,hb⟩;have HB1:=zK_ (aA2 HB.out hb);have sX:=zK_ (aA3 BK.out hb);clear hb;have hz0:w1.cell? ⟨w.heap.size,0,none⟩=some (.int .i64 aD):=(blk_cell sX.out 0).trans rfl;have hz1:w1.cell? ⟨w.heap.size,1,none⟩=some (.slice aI aC.length aG):=(blk_cell sX.out 1).trans rfl;(go_wp2_with fail);refine(aBx.calls _ _ _ false _ HU.out).mono ?_;rintro e w1a ⟨rfl,hd⟩;have HB1a:=zK_ (aA2 HB1.out hd.below);clear hd;go_wp2;go_ret;exact⟨_,rfl,Kd.S_nil _ _ _ _ _,HB1a.out⟩
  | true =>
   rw[if_pos rfl]at H;obtain⟨L,hL,H⟩:=zO_ H;have HL:=zK_ hL;clear hL;(split at H);(case isFalse=>cases H);rename_i hlen;have HLEN:=zK_ hlen;clear hlen;unfold Cf.redF at H;split at H
   ·rename_i hq;obtain rfl:=Option.some.inj H;clear H;obtain⟨hq0,hq1,hq2,hq3⟩:=hq;obtain⟨q,rfl⟩:=Int.eq_ofNat_of_zero_le hq0;rw[Int.toNat_natCast];have HQ:=zK_ (show q≤1000000∧L.length≤1000000∧∀ r∈L,q<r.length from ⟨by omega,hq2,fun r hr=>by have:=hq3 r hr;omega⟩);clear hq0 hq1 hq2 hq3;go_enter Try.func107,Try.ntmps107;(go_wp2_with fail);refine(aAi.calls k _ _ _ aC true _ (Kd.C_below HR.out HB.out) HC.out HV.out).mono ?_;rintro e w1 ⟨rfl,hb⟩;have HB1:=zK_ (aA2 HB.out hb);have sX:=zK_ (aA3 BK.out hb);clear hb;have hz0:w1.cell? ⟨w.heap.size,0,none⟩=some (.int .i64 aD):=(blk_cell sX.out 0).trans rfl;have hz1:w1.cell? ⟨w.heap.size,1,none⟩=some (.slice aI aC.length aG):=(blk_cell sX.out 1).trans rfl;(go_wp2_with fail);refine(aBx.calls _ _ _ true _ HU.out).mono ?_;rintro e w1a ⟨rfl,hd⟩;have HB1a:=zK_ (aA2 HB1.out hd.below);have BK1a:=zK_ (aA3 sX.out hd.below);clear hd hz0 hz1;have hz0:w1a.cell? ⟨w.heap.size,0,none⟩=some (.int .i64 aD):=(blk_cell BK1a.out 0).trans rfl;have hz1:w1a.cell? ⟨w.heap.size,1,none⟩=some (.slice aI aC.length aG):=(blk_cell BK1a.out 1).trans rfl;(go_wp2_with (first|((with_reducible refine aAn (N:=19) rfl ?_);refine Kd.S_lit (w0:=w) (Kd.slice 3 (Kd.int .i64)) w.heap.size 26 ?hg (N:=19) ?hd (xs:=([]:List (List Int))) (inner:=[]) (ok:=fun _=>True) (okp:=fun _=>True) ?hr ?hp (fun _ hk=>hk) trivial HB1a.out (aAd HB1a.out) (by simp) ?_;(case hd=>rfl);(case hg=>rfl);(case hr=>exact aCp);(case hp=>exact(aDs.none _ _));intro v19 w1b ho hb hg_ hnew_;have HS0:=zK_ ho;have HB1b:=zK_ hb;have BK1b:=zK_ (aAk BK1a.out hg_ (by simp));clear ho hb hg_ hnew_;have hy0:w1b.cell? ⟨w.heap.size,0,none⟩=some (.int .i64 aD):=(blk_cell BK1b.out 0).trans rfl;have hy1:w1b.cell? ⟨w.heap.size,1,none⟩=some (.slice aI aC.length aG):=(blk_cell BK1b.out 1).trans rfl)));refine(aAq.calls k _ _ _ aC L _ (Kd.C_below HR.out HB1b.out) HC.out HL.out).mono ?_;rintro e w2 ⟨vL,rfl,hS,hb⟩;have HB2:=zK_ (aA2 HB1b.out hb);obtain⟨AL,cL,eL,hcL,_⟩:=Kd.S_reads hS;subst eL;have HSL:=zK_ (Kd.S_mono (Kd.S_bound hS) (ok':=fun k=>w1b.heap.size≤k∧k<w2.heap.size) fun k hk=>⟨hk.2.1,hk.2.2.1⟩);have HSI:=zK_ (Kd.S_mono (Kd.S_bound (Kd.S_below (Kd.S_bound HS0.out) hb)) (ok':=fun k=>k<w1b.heap.size∨w2.heap.size≤k) fun k hk=>.inl hk.1.2.2.1);have HW:=zK_ hb.size;have hLl:L.length≤cL:=hcL;clear hS hb hcL hz0 hz1 hy0 hy1 HS0;go_wp2;(go_loopw [5,23] (fun v5 v23 wr=>∃ i:Nat,v23 = .int .i64 (i:Int)∧Aside0 (i≤L.length∧w2.heap.size≤wr.heap.size)∧Aside0 (Below w.heap.size w wr)∧Aside0 (Kd.S (Kd.slice 3 (Kd.int .i64)) 26 wr w1b.heap.size (fun k=>w1b.heap.size≤k∧k<w2.heap.size) (.slice AL L.length cL) L)∧Aside0 (Kd.S (Kd.slice 3 (Kd.int .i64)) 26 wr w.heap.size (fun k=>k<w1b.heap.size∨w2.heap.size≤k) v5 (Cf.keepF q L i))) (fun _ v _=>L.length-(intOf v).toNat));case atStart=>exact⟨0,rfl,⟨Nat.zero_le _,Nat.le_refl _⟩,HB2,HSL,HSI⟩
    case round =>
     obtain⟨i,rfl,HI,HBr,HLr,HS⟩:=hrel;by_cases hlt:i<L.length;rotate_left
     ·have c0:decide ((i:Int)<(L.length:Int))=false:=decide_eq_false (by omega);(have hi:i=L.length:=by have:=HI.out;omega);subst hi;clear hlt;go_wp2;go_ret;exact⟨_,rfl,Kd.S_mono HS.out (fun _ _=>trivial),HBr.out⟩
     have c0:decide ((i:Int)<(L.length:Int))=true:=decide_eq_true (by omega);obtain⟨x,hxi⟩:∃ x,L[i]? = some x:=⟨_,List.getElem?_eq_getElem hlt⟩
     have hx:aBp L (i:Int)=x:=by
      unfold aBp;rw[Int.toNat_natCast,List.getD_eq_getElem?_getD,hxi];rfl
     (have p1:(0:Int)≤(i:Int):=by omega);(have p2:(i:Int)<(L.length:Int):=by omega);obtain⟨gL,Ai,ci,eg,hcell,hci,hCi⟩:=aG4 (Kd.S_reads' HLr.out).2.2 (i:Int) p1 p2;subst eg;rw[hx]at hcell hci hCi;rw[Int.toNat_natCast]at hcell;have HRi:=zK_ hCi;have HCi:=zK_ hci;(have hib:(i:Int)≤1000000:=by have:=HQ.out.2.1;omega);(have hq0:(0:Int)≤(q:Int):=by omega);(have hqb:(q:Int)≤1000000:=by have:=HQ.out.1;omega);have HLT:=zK_ hlt;have HXI:=zK_ hxi;clear hxi hlt hCi hci hx;by_cases hq:i=q
     ·(have c1:((i:Int)==(q:Int))=true:=by simp[hq]);(have c2:((i:Int) != (q:Int))=false:=by simp[hq]);have HQI:=zK_ hq;clear hq;go_wp2;go_roundw
      case rel =>
       refine⟨i+1,by go_num,⟨by have:=HLT.out;omega,HI.out.2⟩,HBr,HLr,⟨?_⟩⟩;have e:Cf.keepF q L (i+1)=Cf.keepF q L i:=if_pos HQI.out;rw[e];exact HS.out
      case measure =>
       have:=HLT.out;(simp[intOf]);omega
     (have c1:((i:Int)==(q:Int))=false:=by simp;omega);(have c2:((i:Int) != (q:Int))=true:=by simp;omega);have HQI:=zK_ hq;clear hq;have hql:q<x.length:=HQ.out.2.2 x (List.mem_of_getElem? HXI.out);have HXL:=zK_ (show q<x.length∧x.length≤1000000 from ⟨hql,HLEN.out x (List.mem_of_getElem? HXI.out)⟩);have HKL:=zK_ (Cf.keepF_len q L i);(try go_wp2);have HBd:=zK_ (aAs HBr.out);have HId:=zK_ (show w2.heap.size≤wr.drew.heap.size from HI.out.2);have HLd:=zK_ (Kd.S_drew HLr.out);have HSd:=zK_ (Kd.S_drew HS.out);have HRd:=zK_ (Kd.C_below HRi.out (aEn (Below.refl _ _)));clear HBr HS HRi HLr;obtain⟨it,hit,_,hszt,_⟩:=info_parts aDz;obtain⟨hcutt,hAt,hCt⟩:=aH9 (P:=Try.prog) (Value.int .i64) 0 26 3 .i64 Try.underlying26 hit hszt Ai ci x (q:Int) hq0 (by omega) HCi.out;obtain⟨ji,hji⟩:∃ j:Int,wrap64 ((q:Int)+1)=j:=⟨_,rfl⟩;have hjiw:IntKind.i64.wrap ((q:Int)+1)=ji:=(aE7 _).trans hji;have HJ:=zK_ (show ji=((q:Int)+1) from by rw[← hji];unfold wrap64;omega);obtain⟨Ae,hcute,hAe,hCe⟩:=aEs (P:=Try.prog) (Value.int .i64) 0 26 3 .i64 Try.underlying26 hit hszt Ai ci x ji (by have:=HJ.out;omega) (by have:=HJ.out;omega) HCi.out;rw[Int.toNat_natCast]at hcutt hAt hCt;rw[show ji.toNat=q+1 from by have:=HJ.out;omega]at hcute hAe hCe;clear hit hszt hCt hCe;refine aE5 (n:=14) (S:=fun w'=>True) (ds:=[]) (zM 14 0) (by kernel_rfl) rfl rfl trivial (fun hHeld=>?_);refine aDc aB5.tab8 aB5.bits8 (fun HT_ HW_=>?_);generalize wr.drew=wd at HBd HSd HRd HId HLd hHeld ⊢;have HRt:=zK_ (Kd.C_of_reads (h1:=fun _=>rfl) (hAt _ (Kd.reads_of_C HRd.out)));have HRe:=zK_ (Kd.C_of_reads (h1:=fun _=>rfl) (hAe _ (Kd.reads_of_C HRd.out)));clear hAt hAe;refine zQ 0 31 (zM 14 1) ?_
     refine zQ 2 33 (zM 14 5) ?_
     refine zQ 3 34 (zM 14 13) ?_
     refine zQ 4 35 (zM 14 29) ?_
     refine zQ 6 37 (zM 14 93) ?_
     refine zQ 7 38 (zM 14 221) ?_
     refine zQ 8 39 (zM 14 477) ?_
     refine zQ 9 40 (zM 14 989) ?_
     refine aFz (i:=1) (N:=some 32) (zM 14 991) rfl rfl (aDo HT_.out (by kernel_rfl)) (by decide) (fun K hK=>?_);refine Kd.R_lit_step (w0:=wd) (Kd.int .i64) wd.heap.size 3 ?hg (N:=32) ?hd (xs:=([]:List Int)) (inner:=[]) (ok:=fun _=>True) (okp:=fun _=>True) ?hr ?hp (fun _ hk=>hk) trivial (Below.refl _ _) (Nat.le_refl _) (by simp) ?_;(case hd=>rfl);(case hg=>rfl);(case hr=>exact aCp);(case hp=>exact(aDs.none _ _));intro vA wA hoA hbA hg_ hnew_;clear hg_ hnew_;have HOA:=zK_ hoA;have HBA:=zK_ hbA;clear hoA hbA;refine hK.out _ _ trivial (fun hHeld=>?_);clear hK K;refine aDr (a':=?_) ?_ ?_;rotate_left
     ·show Act.put _ (some 32) _=_;exact zzS
     refine aFz (i:=5) (N:=some 36) (zM 14 1023) rfl rfl (aDo HT_.out (by kernel_rfl)) (by decide) (fun K hK=>?_);refine Kd.R_append_rows_step (Kd.int .i64) (w0:=wd) wd.heap.size (by rfl) (.tmp 32) (.tmp 35) 26 3 (.int .i64 0) 8 rfl Try.underlying26 aDz rfl (by decide) (by omega) vA ([]:List Int) (x.take q) _ _ _ (fun _=>True) (fun _=>False) rfl rfl HOA.out (by have h_:=Kd.C_below HRt.out HBA.out;rw[List.length_take]at h_;exact h_) (fun _ _ h=>h) (fun _ h=>h.elim) (fun _ _=>trivial) HBA.out (aAd HBA.out) (by have:=HXL.out;simp only[List.length_nil,List.length_take];omega) ?_;intro vB wB hoB hbB hg_ hat_;clear hg_ hat_;have HOB:=zK_ hoB;have HBB:=zK_ hbB;clear hoB hbB HOA HBA;refine hK.out _ _ trivial (fun hHeld=>?_);clear hK K;refine aDr (a':=?_) ?_ ?_;rotate_left
     ·show Act.put _ (some 36) _=_;exact zzS
     refine aFz (i:=10) (N:=some 41) (zM 14 2047) rfl rfl (aDo HT_.out (by kernel_rfl)) (by decide) (fun K hK=>?_);refine Kd.R_append_rows_step (Kd.int .i64) (w0:=wd) wd.heap.size (by rfl) (.tmp 36) (.tmp 40) 26 3 (.int .i64 0) 8 rfl Try.underlying26 aDz rfl (by decide) (by omega) vB ([]++x.take q) (x.drop (q+1)) _ _ _ (fun _=>True) (fun _=>False) rfl rfl HOB.out (by have h_:=Kd.C_below HRe.out HBB.out;rw[List.length_drop]at h_;exact h_) (fun _ _ h=>h) (fun _ h=>h.elim) (fun _ _=>trivial) HBB.out (aAd HBB.out) (by have:=HXL.out;simp only[List.nil_append,List.length_drop,List.length_take];omega) ?_;intro vC wC hoC hbC hg_ hat_;clear hg_ hat_;rw[List.nil_append,← List.eraseIdx_eq_take_drop_succ]at hoC;obtain⟨Ad,cd,ed⟩:=Kd.R_slice hoC;subst ed;have HD:=zK_ (Kd.R_mono (Kd.R_bound (Kd.R_lower hoC (Nat.le_refl wd.heap.size))) (ok':=fun k=>wd.heap.size≤k) fun k hk=>hk.2.1);have HBC:=zK_ hbC;clear hoC hbC HOB HBB;refine hK.out _ _ trivial (fun hHeld=>?_);clear hK K;refine aDr (a':=?_) ?_ ?_;rotate_left
     ·show Act.put _ (some 41) _=_;exact zzS
     refine aFz (i:=11) (N:=some 42) (zM 14 4095) rfl rfl (aDo HT_.out (by kernel_rfl)) (by decide) (fun K hK=>?_);refine aSy (w1:=?_) (v:=?_) (by rfl) rfl ?_ ?_;rotate_left 2
     ·go_simp;constructor
      ·rfl
      ·rfl
     refine hK.out _ _ trivial (fun hHeld=>?_);clear hK K;refine aDr (a':=?_) ?_ ?_;rotate_left
     ·show Act.put _ (some 42) _=_;exact zzS
     refine aFz (i:=12) (N:=some 43) (zM 14 8191) rfl rfl (aDo HT_.out (by kernel_rfl)) (by decide) (fun K hK=>?_);refine Kd.S_append_step (Kd.slice 3 (Kd.int .i64)) (w0:=w) w.heap.size (by rfl) (.tmp 31) (.tmp 42) 34 26 (.slice none 0 0) 24 rfl Try.underlying34 aGh rfl (by decide) (by omega) u5 (Cf.keepF q L i) (x.eraseIdx q) [.slice Ad (x.eraseIdx q).length cd] (fun k=>k<w1b.heap.size∨w2.heap.size≤k) (fun k=>wd.heap.size≤k) rfl rfl (Kd.M_row (Kd.R_lower HD.out (aAd HBd.out))) ?aK (fun k hk=>.inr (by have:=HId.out;have:=HBC.out.size;omega)) ?aO (aA2 HBd.out HBC.out) (aAd (aA2 HBd.out HBC.out)) ?aL ?_;(case aK=>exact fun k hk=>⟨.inr (by have:=HId.out;omega),fun e=>by have:=Kd.S_lt HSd.out k e.symm;omega⟩);(case aO=>exact Kd.S_mono (Kd.S_below (Kd.S_bound HSd.out) HBC.out) fun k hk=>⟨hk.1,fun h=>by have:=hk.2.2.1;omega⟩);(case aL=>have:=HKL.out;have:=HQ.out.2.1;have:=HLT.out;omega);intro vE wE hoE hbE hgE hat_;have HOE:=zK_ hoE;have HBE:=zK_ hbE;have HLE:=zK_ (Kd.S_grown (Kd.S_below (Kd.S_bound HLd.out) HBC.out) hgE fun k hk e=>by have:=HSd.out.choose_spec.1 k e.symm;have:=hk.1;omega);have HZE:=zK_ hgE.size;clear hoE hbE hgE hat_;refine hK.out _ _ trivial (fun hHeld=>?_);clear hK K;refine aDr (a':=?_) ?_ ?_;rotate_left
     ·show Act.put _ (some 43) _=_;exact zzS
     refine zQ 13 5 (zM 14 16383) ?_
     refine aEq (aDy HT_.out (by kernel_rfl)) ?_;(try go_wp2);go_roundw
     case rel =>
      refine⟨i+1,by go_num,⟨by have:=HLT.out;omega,by have:=HBC.out.size;have:=HZE.out;have:=HId.out;omega⟩,HBE,⟨Kd.S_mono HLE.out fun k hk=>hk.1⟩,⟨?_⟩⟩
      ·have e:Cf.keepF q L (i+1)=Cf.keepF q L i++[x.eraseIdx q]:=by
        show (if i=q then _ else _)=_;rw[if_neg HQI.out,List.getD_eq_getElem?_getD,HXI.out];rfl
       rw[e];exact HOE.out
     case measure =>
      have:=HLT.out;(simp[intOf]);omega
   ·cases H
def aC8.f (k:Nat) (aD:Int) (aC:List (S57)):Option (Int):=(aAi.f k aD aC).bind fun aW=>(if aW=true then((aB5.f k aD aC 0).bind fun bH=>((aCg.f k bH).bind fun cJ=>(some cJ))) else(some 0))
theorem aC8.mono:∀ a0 a1 k,LeO (aC8.f k a0 a1) (aC8.f (k+1) a0 a1):=by
 intro a0 a1 k;unfold aC8.f;repeat' first|(with_reducible apply aCg.mono)|(with_reducible apply aAi.mono)|(with_reducible apply aB5.mono)|(with_reducible exact LeO.refl _)|(with_reducible exact LeO.none _)|(with_reducible refine LeO.ite ?_ ?_)|(with_reducible refine LeO.bind ?_ (fun _=>?_))|apply aCg.mono|apply aAi.mono|apply aB5.mono|exact LeO.none _|refine LeO.ite ?_ ?_|refine LeO.bind ?_ (fun _=>?_)
theorem aC8.calls (k:Nat) (aD:Int) (aI:Option Addr) (aG:Nat) (aC:List (S57)) (r:Int) (w:World) (hr0_1:Kd.C k57 w aI aC.length aC) (hc0_1:aC.length≤aG) (h:aC8.f k aD aC=some r) :
  Calls Try.prog 77 #[.agg #[.int .i64 aD,.slice aI aC.length aG]] w fun e w'=>e = .returned (.int .i64 r)∧Below w.heap.size w w':=by
 have hu25:=Try.underlying25;have b5:=zK_ hr0_1;have bT:=zK_ hc0_1;clear hr0_1 hc0_1;have HB:=zK_ (Below.refl w.heap.size w);have H:((aAi.f k aD aC).bind fun aW=>(if aW=true then((aB5.f k aD aC 0).bind fun bH=>((aCg.f k bH).bind fun cJ=>(some cJ))) else(some 0)))=some r:=h;clear h;obtain⟨aW,A20,H⟩:=zO_ H;(try dsimp only at H);have A2:=zK_ A20;clear A20;by_cases c3:aW=true;rotate_left
 ·replace c3:=Bool.eq_false_iff.mpr c3;subst c3;rw[if_neg (show ¬ (false=true) by decide)]at H;obtain rfl:=Option.some.inj H;go_enter Try.func77,Try.ntmps77;(go_wp2_with (first|((with_reducible refine aAn (N:=1) rfl ?_);refine aAl ?hg (N:=1) ?hd (cs:=#[.int .i64 aD,.slice aI aC.length aG]) (t:=25) ?hr ?_;(case hd=>rfl);(case hg=>rfl);(case hr=>exact aCp);intro aE hg w13 hbox hb;have n_:=zA4 (aA2 zz2 hb) hbox (aDi:w.heap.size≤aE) (aDi:w.heap.size≤aE);clear HB;obtain⟨HB,aA,GW101,GE101⟩:=n_;clear hb hbox hg;have fZ:=aC7 aA;have fY:=aC6 aA;have fX:=aA0 aA.out 0;have fW:=aA0 aA.out 1)|((with_reducible refine aAb (f:=55) rfl ?_);refine aBd (some 4) rfl rfl Try.func55 (by kernel_rfl) rfl #[.agg #[.int .i64 aD,.slice aI aC.length aG]] rfl zz3 ?_;(with_reducible refine(aAi.calls k aD _ _ aC false _ ?side1 ?side2 A2.out).mono ?_);(case side1=>exact zz5);(case side2=>exact bT.out);rintro e w15 ⟨rfl,hb⟩;refine⟨_,rfl,?_⟩;have n_:=zA2 (aA3 (g:=aE) (o:=.cells #[.int .i64 aD,.slice aI aC.length aG] 25 (0,0)) zz0 hb) (aA2 zz1 hb);clear aA HB;obtain⟨aA,HB⟩:=n_;clear hb)));go_ret;exact⟨zz9,zz1⟩
 subst c3;rw[if_pos rfl]at H;obtain⟨bH,A40,H⟩:=zO_ H;(try dsimp only at H);have A4:=zK_ A40;clear A40;obtain⟨cJ,A50,H⟩:=zO_ H;(try dsimp only at H);have A5:=zK_ A50;clear A50;obtain rfl:=Option.some.inj H;go_enter Try.func77,Try.ntmps77;(go_wp2_with (first|((with_reducible refine aAn (N:=1) rfl ?_);refine aAl ?hg (N:=1) ?hd (cs:=#[.int .i64 aD,.slice aI aC.length aG]) (t:=25) ?hr ?_;(case hd=>rfl);(case hg=>rfl);(case hr=>exact aCp);intro aE hg w6 hbox hb;have n_:=zA4 (aA2 zz2 hb) hbox (aDi:w.heap.size≤aE) (aDi:w.heap.size≤aE);clear HB;obtain⟨HB,aA,GW101,GE101⟩:=n_;clear hb hbox hg;have gI:=aC7 aA;have gH:=aC6 aA;have gE:=aA0 aA.out 0;have gD:=aA0 aA.out 1)|((with_reducible refine aAb (f:=55) rfl ?_);refine aBd (some 4) rfl rfl Try.func55 (by kernel_rfl) rfl #[.agg #[.int .i64 aD,.slice aI aC.length aG]] rfl zz3 ?_;(with_reducible refine(aAi.calls k aD _ _ aC true _ ?side1 ?side2 A2.out).mono ?_);(case side1=>exact zz5);(case side2=>exact bT.out);rintro e w8 ⟨rfl,hb⟩;refine⟨_,rfl,?_⟩;have n_:=zA2 (aA3 (g:=aE) (o:=.cells #[.int .i64 aD,.slice aI aC.length aG] 25 (0,0)) zz0 hb) (aA2 zz1 hb);clear aA HB;obtain⟨aA,HB⟩:=n_;clear hb;have gG:=aC7 aA;have gF:=aC6 aA;have gC:=aA0 aA.out 0;have gB:=aA0 aA.out 1)|((with_reducible refine aAb (f:=107) rfl ?_);refine aBd (some 7) rfl rfl Try.func107 (by kernel_rfl) rfl #[.agg #[.int .i64 aD,.slice aI aC.length aG],.int .i64 0] rfl zz3 ?_;(with_reducible refine(aB5.calls k aD _ _ aC 0 bH _ ?side1 ?side2 A4.out).mono ?_);(case side1=>exact zz5);(case side2=>exact bT.out);rintro e w10 ⟨v104,rfl,ho0,hb⟩;refine⟨_,rfl,?_⟩;have n_:=zA3 (Kd.S_lower ho0 (aAd zz1)) (aA3 (g:=aE) (o:=.cells #[.int .i64 aD,.slice aI aC.length aG] 25 (0,0)) zz0 hb) (aA2 zz1 hb);clear aA HB;obtain⟨gY,aA,HB⟩:=n_;clear ho0 hb;obtain⟨Ao11,co11,rJ⟩:=Kd.S_slice gY.out;subst rJ)|((with_reducible refine aAb (f:=106) rfl ?_);refine aBd (some 8) rfl rfl Try.func106 (by kernel_rfl) rfl #[.slice Ao11 bH.length co11] rfl zz3 ?_;(with_reducible refine(aCg.calls k _ _ bH cJ _ ?side1 ?side2 A5.out).mono ?_);(case side1=>repeat(first|exact(Kd.S_reads' gY.out).2.2|(with_reducible refine Kd.C_alloc ?_ _)|(with_reducible refine Kd.C_drewN ?_ _)|(with_reducible refine Kd.C_drew ?_)));(case side2=>exact(Kd.S_reads' gY.out).2.1);rintro e w12 ⟨rfl,hb⟩;refine⟨_,rfl,?_⟩;have n_:=zA3 (Kd.S_below (by(with_reducible repeat(first|apply Kd.S_alloc|apply Kd.S_drewN|apply Kd.S_drew));exact gY.out) hb) (aA3 (g:=aE) (o:=.cells #[.int .i64 aD,.slice aI aC.length aG] 25 (0,0)) zz0 hb) (aA2 zz1 hb);clear gY aA HB;obtain⟨gY,aA,HB⟩:=n_;clear hb)));go_ret;exact⟨zz9,zz1⟩
end Go.Proofs.Ytnbljcgdgblgoaa.P
end
section
namespace Go.Proofs.Ytnbljcgdgblgoaa.Cf
def fstS (s:List Int):Nat:=if s.length=0 then 0 else(s.getD (s.length-1) 0).toNat+1
def extS (s:List Int) (j:Nat):List (List Int):=(List.range (j-fstS s)).map fun d=>s++[((fstS s+d:Nat):Int)]
def setsN (n:Nat):Nat→List (List Int)
 | 0=>[[]]
 | k+1=>(setsN n k).flatMap fun s=>extS s n
def outS (n:Nat) (L:List (List Int)) (i:Nat):List (List Int):=(L.take i).flatMap fun s=>extS s n
theorem extS_self (s:List Int) {j:Nat} (h:j≤fstS s):extS s j=[]:=by
 unfold extS
 rw[Nat.sub_eq_zero_of_le h]
 rfl
theorem extS_succ (s:List Int) {j:Nat} (h:fstS s≤j):extS s (j+1)=extS s j++[s++[(j:Int)]]:=by
 unfold extS
 rw[show j+1-fstS s=(j-fstS s)+1 by omega,List.range_succ,List.map_append]
 simp only[List.map_cons,List.map_nil]
 rw[show fstS s+(j-fstS s)=j by omega]
theorem outS_succ (n:Nat) {L:List (List Int)} {i:Nat} {x:List Int} (h:L[i]? = some x):outS n L (i+1)=outS n L i++extS x n:=by
 unfold outS
 rw[List.take_add_one,h,List.flatMap_append]
 simp
theorem outS_all (n:Nat) (L:List (List Int)):outS n L L.length=L.flatMap fun s=>extS s n:=by
 unfold outS
 rw[List.take_length]
theorem extS_len (s:List Int) (j:Nat):(extS s j).length≤j:=by
 unfold extS
 rw[List.length_map,List.length_range]
 omega
theorem aK6 (n:Nat):∀ L:List (List Int),(L.flatMap fun s=>extS s n).length≤n*L.length
 | []=>by simp
 | s::L=>by
  have h1:=extS_len s n
  have h2:=aK6 n L
  rw[List.flatMap_cons,List.length_append,List.length_cons,Nat.mul_succ]
  omega
theorem outS_len (n:Nat) (L:List (List Int)) (i:Nat):(outS n L i).length≤n*L.length:=Nat.le_trans (aK6 n _) (Nat.mul_le_mul_left _ (by rw[List.length_take];omega))
theorem aKs {n:Nat} (hn:n≤12):∀ k,(setsN n k).length≤12^k
 | 0=>by simp[setsN]
 | k+1=>by
  have h1:=aKs hn k
  have h2:=aK6 n (setsN n k)
  have h3:=Nat.mul_le_mul hn h1
  rw[Nat.pow_succ]
  show ((setsN n k).flatMap fun s=>extS s n).length≤_
  omega
theorem setsN_len6 {n:Nat} (hn:n≤12) {k:Nat} (hk:k≤6):(setsN n k).length≤2985984:=Nat.le_trans (aKs hn k) (Nat.pow_le_pow_right (show 0<12 by omega) hk)
theorem setsN_ok {n:Nat}:∀ {k:Nat} {s:List Int},s∈setsN n k→s.length=k∧∀ x∈s,0≤x∧x<(n:Int)
 | 0,s,h=>by
  rw[setsN,List.mem_singleton]at h
  subst h
  exact⟨rfl,fun x hx=>by cases hx⟩
 | k+1,s,h=>by
  rw[setsN,List.mem_flatMap]at h
  obtain⟨t,ht,h⟩:=h
  unfold extS at h
  obtain⟨d,hd,rfl⟩:=List.mem_map.1 h
  rw[List.mem_range]at hd
  obtain⟨h1,h2⟩:=setsN_ok ht
  refine⟨by rw[List.length_append,h1];rfl,fun x hx=>?_⟩
  rcases List.mem_append.1 hx with hx|hx
  ·exact h2 x hx
  ·rw[List.mem_singleton]at hx
   omega
theorem fstS_le {n k:Nat} {s:List Int} (h:s∈setsN n k):fstS s≤n:=by
 obtain⟨h1,h2⟩:=setsN_ok h
 unfold fstS
 by_cases c:s.length=0
 ·rw[if_pos c];omega
 ·rw[if_neg c,List.getD_eq_getElem?_getD,List.getElem?_eq_getElem (by omega)]
  have:=h2 _ (List.getElem_mem (l:=s) (n:=s.length-1) (by omega))
  simp only[Option.getD_some]
  omega
theorem aXf (s:List Int) (h:∀ x∈s,0≤x):fstS s=0∨∃ x,x∈s∧(fstS s:Int)=x+1:=by
 unfold fstS
 by_cases c:s.length=0
 ·exact Or.inl (if_pos c)
 ·refine Or.inr ⟨s[s.length-1],List.getElem_mem _,?_⟩
  have:=h _ (List.getElem_mem (l:=s) (n:=s.length-1) (by omega))
  rw[if_neg c,List.getD_eq_getElem?_getD,List.getElem?_eq_getElem (by omega)]
  simp only[Option.getD_some]
  omega
theorem aXg {s:List Int} (h:s.Pairwise (·<·)) (h0:∀ x∈s,0≤x) {a:Int} (ha:a∈s):a<(fstS s:Int):=by
 obtain⟨i,hi,rfl⟩:=List.getElem_of_mem ha
 unfold fstS
 rw[if_neg (by omega),List.getD_eq_getElem?_getD,List.getElem?_eq_getElem (by omega)]
 simp only[Option.getD_some]
 have h1:=h0 _ (List.getElem_mem (l:=s) (n:=s.length-1) (by omega))
 by_cases c:i=s.length-1
 ·subst c
  omega
 ·have:=List.pairwise_iff_getElem.1 h i (s.length-1) hi (by omega) (by omega)
  omega
end Go.Proofs.Ytnbljcgdgblgoaa.Cf
end
section
namespace Go.Proofs.Ytnbljcgdgblgoaa.P
open Go.RowKit Go.Proofs.YtnbljcgdgblgoaaW.PrintWords Go.Proofs.YtnbljcgdgblgoaaW.PrintLast Go.Proofs.YtnbljcgdgblgoaaW.PrintMore
attribute [local go_sem] aCt aCr aDb aDa aCa aC9 aCs aCq
def aDu.f (a0 a1:Int):Option (List (List Int)):=if 0≤a0∧a0≤12∧0≤a1∧a1≤6 then some (Cf.setsN a0.toNat a1.toNat) else none
theorem aDu.callsN (n:Nat) (hn:n≤12):∀ (m:Nat),m≤6→∀ w:World,
  Calls Try.prog 78 #[.int .i64 (n:Int),.int .i64 (m:Int)] w fun e w'=>∃ v0_:Value,e = .returned (v0_)∧Kd.S (Kd.slice 3 (Kd.int .i64)) 26 w' w.heap.size (fun _=>True) v0_ (Cf.setsN n m)∧Below w.heap.size w w':=by
 intro m
 induction m with
 | zero =>
  intro hm w;have HB:=zK_ (Below.refl w.heap.size w);go_enter Try.func78,Try.ntmps78;(go_wp2_with (first|((with_reducible refine aAn (N:=12) rfl ?_);refine Kd.R_lit (w0:=w) (Kd.int .i64) w.heap.size 3 ?hg (N:=12) ?hd (xs:=([]:List Int)) (inner:=[]) (ok:=fun _=>True) (okp:=fun _=>True) ?hr ?hp (fun _ hk=>hk) trivial HB.out (aAd HB.out) (by simp) ?_;(case hd=>rfl);(case hg=>rfl);(case hr=>exact aCp);(case hp=>exact(aDs.none _ _));intro vA wA ho hb hg_ hnew_;have HOA:=zK_ ho;have HBA:=zK_ hb;clear ho hb hg_ hnew_;obtain⟨Ad,cd,ed⟩:=Kd.R_slice HOA.out;subst ed)|((with_reducible refine aAn (N:=13) rfl ?_);refine Kd.S_lits (w0:=w) (Kd.slice 3 (Kd.int .i64)) w.heap.size 26 ?hg (N:=13) ?hd (xs:=([[]]:List (List Int))) (inner:=[.slice Ad 0 cd]) (ok:=fun _=>True) (fun j k=>j=0) ?hr rfl ?hp (fun i j k hi hj=>hi.trans hj.symm) (fun _ _ _=>trivial) trivial HBA.out (aAd HBA.out) (by simp) ?_;(case hd=>rfl);(case hg=>rfl);(case hr=>exact aCp);(case hp=>exact fun j x hx=>match j,hx with|0,rfl=>Kd.M_row (Kd.R_mono HOA.out fun _ _=>rfl)|_+1,h_=>absurd h_ (by simp));intro vB wB ho hb hg_ hnew_;have HOB:=zK_ ho;have HBB:=zK_ hb;clear ho hb hg_ hnew_)));go_ret;exact⟨_,rfl,HOB.out,HBB.out⟩
 | succ m ih =>
  intro hm w;have HB:=zK_ (Below.refl w.heap.size w);have HLn:=zK_ (Cf.setsN_len6 hn (k:=m) (by omega));have HOK:=zK_ (show ∀ x,x∈Cf.setsN n m→x.length=m∧(∀ y∈x,0≤y∧y<(n:Int))∧Cf.fstS x≤n from fun x hx=>⟨(Cf.setsN_ok hx).1,(Cf.setsN_ok hx).2,Cf.fstS_le hx⟩);have e0:Cf.setsN n (m+1)=Cf.outS n (Cf.setsN n m) (Cf.setsN n m).length:=(Cf.outS_all n _).symm;rw[e0];have IH:=zK_ (ih (by omega));clear ih e0;generalize Cf.setsN n m=L at HLn HOK IH ⊢;(have hm0:(m:Int)≤6:=by omega);(have hn0:(n:Int)≤12:=by omega);(have c1:(((m+1:Nat):Int)==0)=false:=by simp;omega);(have c2:wrap64 (((m+1:Nat):Int)-1)=(m:Int):=by unfold wrap64;omega);have c2w:IntKind.i64.wrap (((m+1:Nat):Int)-1)=(m:Int):=(aE7 _).trans c2;generalize ((m+1:Nat):Int)=m1 at c1 c2 c2w ⊢;go_enter Try.func78,Try.ntmps78;(go_wp2_with (first|((with_reducible refine aAn (N:=14) rfl ?_);refine Kd.S_lit (w0:=w) (Kd.slice 3 (Kd.int .i64)) w.heap.size 26 ?hg (N:=14) ?hd (xs:=([]:List (List Int))) (inner:=[]) (ok:=fun _=>True) (okp:=fun _=>True) ?hr ?hp (fun _ hk=>hk) trivial HB.out (aAd HB.out) (by simp) ?_;(case hd=>rfl);(case hg=>rfl);(case hr=>exact aCp);(case hp=>exact(aDs.none _ _));intro v14 w1 ho hb hg_ hnew_;have HS0:=zK_ ho;have HB1:=zK_ hb;clear ho hb hg_ hnew_)));refine(IH.out w1).mono ?_;rintro e w2 ⟨vL,rfl,hS,hb⟩;have HB2:=zK_ (aA2 HB1.out hb);obtain⟨AL,cL,eL,hcL,_⟩:=Kd.S_reads hS;subst eL;have HSL:=zK_ (Kd.S_mono (Kd.S_bound hS) (ok':=fun k=>w1.heap.size≤k∧k<w2.heap.size) fun k hk=>⟨hk.2.1,hk.2.2.1⟩);have HSI:=zK_ (Kd.S_mono (Kd.S_bound (Kd.S_below (Kd.S_bound HS0.out) hb)) (ok':=fun k=>k<w1.heap.size∨w2.heap.size≤k) fun k hk=>.inl hk.1.2.2.1);have HW:=zK_ hb.size;have hLl:L.length≤cL:=hcL;clear hS hb hcL HS0;go_wp2;(go_loopw [5,20] (fun v5 v20 wr=>∃ i:Nat,v20 = .int .i64 (i:Int)∧Aside0 (i≤L.length∧w2.heap.size≤wr.heap.size)∧Aside0 (Below w.heap.size w wr)∧Aside0 (Kd.S (Kd.slice 3 (Kd.int .i64)) 26 wr w1.heap.size (fun k=>w1.heap.size≤k∧k<w2.heap.size) (.slice AL L.length cL) L)∧Aside0 (Kd.S (Kd.slice 3 (Kd.int .i64)) 26 wr w.heap.size (fun k=>k<w1.heap.size∨w2.heap.size≤k) v5 (Cf.outS n L i))) (fun _ v _=>L.length-(intOf v).toNat));case atStart=>exact⟨0,rfl,⟨Nat.zero_le _,Nat.le_refl _⟩,HB2,HSL,HSI⟩
  case round =>
   obtain⟨i,rfl,HI,HBr,HLr,HS⟩:=hrel;by_cases hlt:i<L.length;rotate_left
   ·have c0:decide ((i:Int)<(L.length:Int))=false:=decide_eq_false (by omega);(have hi:i=L.length:=by have:=HI.out;omega);subst hi;clear hlt;go_wp2;go_ret;exact⟨_,rfl,Kd.S_mono HS.out (fun _ _=>trivial),HBr.out⟩
   have c0:decide ((i:Int)<(L.length:Int))=true:=decide_eq_true (by omega);obtain⟨x,hxi⟩:∃ x,L[i]? = some x:=⟨_,List.getElem?_eq_getElem hlt⟩
   have hx:aBp L (i:Int)=x:=by
    unfold aBp;rw[Int.toNat_natCast,List.getD_eq_getElem?_getD,hxi];rfl
   (have p1:(0:Int)≤(i:Int):=by omega);(have p2:(i:Int)<(L.length:Int):=by omega);obtain⟨gL,_,_,eg,_,_,_⟩:=aG4 (Kd.S_reads' HLr.out).2.2 (i:Int) p1 p2;subst eg;obtain⟨cc,_,hM,hcell⟩:=Kd.S_get HLr.out ([]:List Int) (i:Int) p1 p2;obtain⟨vx,hvx,hRx⟩:=hM;subst hvx;replace hcell:=hcell 0 vx rfl;rw[show (L.getD ((i:Int)).toNat [])=x from hx]at hRx;(replace hRx:=Kd.R_mono hRx (ok':=fun k=>w1.heap.size≤k∧k<w2.heap.size) fun k hk=>hk.1);obtain⟨Ai,ci,ei⟩:=Kd.R_slice hRx;subst ei;rw[Int.toNat_natCast,show i*(Kd.slice 3 (Kd.int .i64)).sz+0=i from Nat.mul_one i]at hcell;have HRi:=zK_ hRx;clear hRx;(have hib:(i:Int)≤3000000:=by have:=HLn.out;omega);have HLT:=zK_ hlt;have HXI:=zK_ hxi;have hok:=HOK.out x (List.mem_of_getElem? hxi);have HOX:=zK_ hok;clear hxi hlt hx;(have hxl:(x.length:Int)≤6:=by have:=HOX.out.1;omega);(have hfb:(Cf.fstS x:Int)≤12:=by have:=HOX.out.2.2;omega);clear hok;by_cases c3:(x.length:Int)>0;rotate_left
   ·have iQ:=decide_eq_false c3;have wF:decide (0<x.length)=false:=decide_eq_false (by omega);(have hf0:Cf.fstS x=0:=by unfold Cf.fstS;rw[if_pos (by omega)]);go_wp2;(go_loopw [5,9] (fun v5 v9 wi=>∃ j:Nat,v9 = .int .i64 (j:Int)∧Aside0 (Cf.fstS x≤j∧j≤n∧w2.heap.size≤wi.heap.size)∧Aside0 (Below w.heap.size w wi)∧Aside0 (Kd.S (Kd.slice 3 (Kd.int .i64)) 26 wi w1.heap.size (fun k=>w1.heap.size≤k∧k<w2.heap.size) (.slice (some gL) L.length cL) L)∧Aside0 (Kd.S (Kd.slice 3 (Kd.int .i64)) 26 wi w.heap.size (fun k=>k<w1.heap.size∨w2.heap.size≤k) v5 (Cf.outS n L i++Cf.extS x j))∧Aside0 (Kd.R (Kd.int .i64) 3 wi w1.heap.size (fun k=>w1.heap.size≤k∧k<w2.heap.size) (.slice Ai x.length ci) x)) (fun _ v _=>n-(intOf v).toNat));case atStart=>exact⟨Cf.fstS x,by rw[hf0];rfl,⟨Nat.le_refl _,HOX.out.2.2,HI.out.2⟩,HBr,HLr,⟨by rw[Cf.extS_self x (Nat.le_refl _),List.append_nil];exact HS.out⟩,HRi⟩
    case round =>
     obtain⟨j,rfl,HJ,HBi,HLi,HSi,HRj⟩:=hrel;(have hjb:(j:Int)≤12:=by have:=HJ.out;omega);by_cases hj:j<n
     ·have d0:decide ((j:Int)<(n:Int))=true:=decide_eq_true (by omega);have d1:decide (j<n)=true:=decide_eq_true hj;have HJN:=zK_ hj;clear hj;have HLA:=zK_ (show (Cf.outS n L i++Cf.extS x j).length≤36000000 from by rw[List.length_append];have a1:=Cf.outS_len n L i;have a2:=Cf.extS_len x j;have a3:=Nat.mul_le_mul hn HLn.out;omega);(go_wp2_with (first|((with_reducible refine aAn (N:=41) rfl ?_);refine Kd.R_lit (w0:=wr) (Kd.int .i64) wr.heap.size 3 ?hg (N:=41) ?hd (xs:=([]:List Int)) (inner:=[]) (ok:=fun _=>True) (okp:=fun _=>True) ?hr ?hp (fun _ hk=>hk) trivial (Below.refl _ _) (Nat.le_refl _) (by simp) ?_;(case hd=>rfl);(case hg=>rfl);(case hr=>exact aCp);(case hp=>exact(aDs.none _ _));intro vA wA ho hb hg_ hnew_;have HOA:=zK_ ho;have HBA:=zK_ hb;clear ho hb hg_ hnew_)|((with_reducible refine aB4 (b:=.append) (xs:=#[.tmp 41,.tmp 42]) rfl ?_);at_builtin;refine Kd.R_append_rows (Kd.int .i64) (w0:=wr) wr.heap.size rfl (.tmp 41) (.tmp 42) 26 3 (.int .i64 0) 8 rfl Try.underlying26 aDz rfl (by decide) (by omega) vA ([]:List Int) x _ _ _ (fun _=>True) (fun _=>False) rfl rfl HOA.out (Kd.C_below (Kd.R_reads' HRj.out).2.2 HBA.out) (fun _ _ h=>h) (fun _ h=>h.elim) (fun _ _=>trivial) HBA.out (aAd HBA.out) (by have:=HOX.out.1;simp only[List.length_nil];omega) ?_;intro vB wB ho hb hg hat;have HOB:=zK_ ho;have HBB:=zK_ hb;clear ho hb hg hat)|((with_reducible refine aB4 (b:=.append) (xs:=#[.tmp 43,.tmp 45]) rfl ?_);at_builtin;refine Kd.R_append (Kd.int .i64) (w0:=wr) wr.heap.size rfl (.tmp 43) (.tmp 45) 26 3 (.int .i64 0) 8 rfl Try.underlying26 aDz rfl (by decide) (by omega) vB ([]++x) (j:Int) [.int .i64 (j:Int)] (fun _=>True) (fun _=>False) rfl rfl rfl (fun _ hk=>hk.elim) (fun _ _=>trivial) HOB.out HBB.out (aAd HBB.out) (by have:=HOX.out.1;simp only[List.nil_append];omega) ?_;intro vC wC ho hb hg hat;obtain⟨Ad,cd,ed⟩:=Kd.R_slice ho;subst ed;rw[List.nil_append,show (x++[(j:Int)]).length=x.length+1 from List.length_append]at ho;have HD:=zK_ (Kd.R_mono (Kd.R_bound ho) (ok':=fun k=>wr.heap.size≤k) fun k hk=>hk.2.1);have HBC:=zK_ hb;clear ho hb hg hat)|((with_reducible refine aB4 (b:=.append) (xs:=#[.tmp 40,.tmp 47]) rfl ?_);at_builtin;refine Kd.S_append (Kd.slice 3 (Kd.int .i64)) (w0:=w) w.heap.size rfl (.tmp 40) (.tmp 47) 34 26 (.slice none 0 0) 24 rfl Try.underlying34 aGh rfl (by decide) (by omega) u5 (Cf.outS n L i++Cf.extS x j) (x++[(j:Int)]) [.slice Ad (x.length+1) cd] (fun k=>k<w1.heap.size∨w2.heap.size≤k) (fun k=>wr.heap.size≤k) rfl rfl (Kd.M_row (Kd.R_lower HD.out (aAd HBi.out))) (fun k hk=>⟨.inr (by have:=HJ.out;omega),fun e=>by have:=Kd.S_lt HSi.out k e.symm;omega⟩) (fun k hk=>.inr (by have:=HJ.out;have:=HBC.out.size;omega)) (Kd.S_mono (Kd.S_below (Kd.S_bound HSi.out) HBC.out) fun k hk=>⟨hk.1,fun h=>by have:=hk.2.2.1;omega⟩) (aA2 HBi.out HBC.out) (aAd (aA2 HBi.out HBC.out)) (by have:=HLA.out;omega) ?_;intro vE wE ho hb hg hat;have HOE:=zK_ ho;have HBE:=zK_ hb;have HLE:=zK_ (Kd.S_grown (Kd.S_below (Kd.S_bound HLi.out) HBC.out) hg fun k hk e=>by have:=HSi.out.choose_spec.1 k e.symm;have:=hk.1;omega);have HZE:=zK_ hg.size;have HRE:=zK_ (Kd.R_step (Kd.R_below HRj.out HBC.out) fun k hk hlt=>hg.block k hlt fun e=>by have:=HSi.out.choose_spec.1 k e.symm;have:=hk.1;have:=hk.2;omega);clear ho hb hg hat)));go_roundw
      case rel =>
       refine⟨j+1,by go_num,⟨by have:=HJ.out;omega,by have:=HJN.out;omega,by have:=HBC.out.size;have:=HZE.out;have:=HJ.out;omega⟩,HBE,⟨Kd.S_mono HLE.out fun k hk=>hk.1⟩,⟨?_⟩,HRE⟩;rw[Cf.extS_succ x HJ.out.1,← List.append_assoc];exact HOE.out
      case measure =>
       have:=HJN.out;(simp[intOf]);omega
     have d0:decide ((j:Int)<(n:Int))=false:=decide_eq_false (by omega);have d1:decide (j<n)=false:=decide_eq_false hj;(have hjn:j=n:=by have:=HJ.out;omega);subst hjn;clear hj;go_wp2;go_roundw
     case rel =>
      refine⟨i+1,by go_num,⟨by have:=HLT.out;omega,HJ.out.2.2⟩,HBi,HLi,⟨?_⟩⟩;rw[Cf.outS_succ _ HXI.out];exact HSi.out
     case measure =>
      have:=HLT.out;(simp[intOf]);omega
   have iQ:=decide_eq_true c3;have wF:decide (0<x.length)=true:=decide_eq_true (by omega);obtain⟨ji,hji⟩:∃ j_:Int,(wrap64 ((x.length:Int)-1))=j_:=⟨_,rfl⟩;have hjiw:(IntKind.i64.wrap ((x.length:Int)-1))=ji:=(aE7 _).trans hji;(have hje:ji=(x.length:Int)-1:=by rw[← hji];unfold wrap64;omega);(have q1:0≤ji:=by omega);(have q2:ji<(x.length:Int):=by omega);obtain⟨ad,ea,hxa⟩:=Kd.at_int (Kd.R_reads' HRi.out).2.2 ji q1 q2;subst ea
   have hrd:rd x ji+1=(Cf.fstS x:Int):=by
    (have hl:0<x.length:=by omega);(have hg:ji.toNat=x.length-1:=by omega);have hmem:=HOX.out.2.1 _ (List.getElem_mem (l:=x) (n:=x.length-1) (by omega));unfold rd Cf.fstS;rw[if_neg (by omega),hg,List.getD_eq_getElem?_getD,List.getElem?_eq_getElem (by omega)];simp only[Option.getD_some];omega
   (have hfw:wrap64 (rd x ji+1)=(Cf.fstS x:Int):=by rw[hrd];unfold wrap64;omega);have hfww:IntKind.i64.wrap (rd x ji+1)=(Cf.fstS x:Int):=(aE7 _).trans hfw;clear hje hrd;have q1b:decide (0≤ji)=true:=decide_eq_true q1;have q2b:decide (ji<(x.length:Int))=true:=decide_eq_true q2;replace q1:=eq_true q1;replace q2:=eq_true q2;go_wp2;(go_loopw [5,9] (fun v5 v9 wi=>∃ j:Nat,v9 = .int .i64 (j:Int)∧Aside0 (Cf.fstS x≤j∧j≤n∧w2.heap.size≤wi.heap.size)∧Aside0 (Below w.heap.size w wi)∧Aside0 (Kd.S (Kd.slice 3 (Kd.int .i64)) 26 wi w1.heap.size (fun k=>w1.heap.size≤k∧k<w2.heap.size) (.slice (some gL) L.length cL) L)∧Aside0 (Kd.S (Kd.slice 3 (Kd.int .i64)) 26 wi w.heap.size (fun k=>k<w1.heap.size∨w2.heap.size≤k) v5 (Cf.outS n L i++Cf.extS x j))∧Aside0 (Kd.R (Kd.int .i64) 3 wi w1.heap.size (fun k=>w1.heap.size≤k∧k<w2.heap.size) (.slice (some ad) x.length ci) x)) (fun _ v _=>n-(intOf v).toNat));case atStart=>exact⟨Cf.fstS x,rfl,⟨Nat.le_refl _,HOX.out.2.2,HI.out.2⟩,HBr,HLr,⟨by rw[Cf.extS_self x (Nat.le_refl _),List.append_nil];exact HS.out⟩,HRi⟩
   case round =>
    obtain⟨j,rfl,HJ,HBi,HLi,HSi,HRj⟩:=hrel;(have hjb:(j:Int)≤12:=by have:=HJ.out;omega);by_cases hj:j<n
    ·have d0:decide ((j:Int)<(n:Int))=true:=decide_eq_true (by omega);have d1:decide (j<n)=true:=decide_eq_true hj;have HJN:=zK_ hj;clear hj;have HLA:=zK_ (show (Cf.outS n L i++Cf.extS x j).length≤36000000 from by rw[List.length_append];have a1:=Cf.outS_len n L i;have a2:=Cf.extS_len x j;have a3:=Nat.mul_le_mul hn HLn.out;omega);(go_wp2_with (first|((with_reducible refine aAn (N:=41) rfl ?_);refine Kd.R_lit (w0:=wr) (Kd.int .i64) wr.heap.size 3 ?hg (N:=41) ?hd (xs:=([]:List Int)) (inner:=[]) (ok:=fun _=>True) (okp:=fun _=>True) ?hr ?hp (fun _ hk=>hk) trivial (Below.refl _ _) (Nat.le_refl _) (by simp) ?_;(case hd=>rfl);(case hg=>rfl);(case hr=>exact aCp);(case hp=>exact(aDs.none _ _));intro vA wA ho hb hg_ hnew_;have HOA:=zK_ ho;have HBA:=zK_ hb;clear ho hb hg_ hnew_)|((with_reducible refine aB4 (b:=.append) (xs:=#[.tmp 41,.tmp 42]) rfl ?_);at_builtin;refine Kd.R_append_rows (Kd.int .i64) (w0:=wr) wr.heap.size rfl (.tmp 41) (.tmp 42) 26 3 (.int .i64 0) 8 rfl Try.underlying26 aDz rfl (by decide) (by omega) vA ([]:List Int) x _ _ _ (fun _=>True) (fun _=>False) rfl rfl HOA.out (Kd.C_below (Kd.R_reads' HRj.out).2.2 HBA.out) (fun _ _ h=>h) (fun _ h=>h.elim) (fun _ _=>trivial) HBA.out (aAd HBA.out) (by have:=HOX.out.1;simp only[List.length_nil];omega) ?_;intro vB wB ho hb hg hat;have HOB:=zK_ ho;have HBB:=zK_ hb;clear ho hb hg hat)|((with_reducible refine aB4 (b:=.append) (xs:=#[.tmp 43,.tmp 45]) rfl ?_);at_builtin;refine Kd.R_append (Kd.int .i64) (w0:=wr) wr.heap.size rfl (.tmp 43) (.tmp 45) 26 3 (.int .i64 0) 8 rfl Try.underlying26 aDz rfl (by decide) (by omega) vB ([]++x) (j:Int) [.int .i64 (j:Int)] (fun _=>True) (fun _=>False) rfl rfl rfl (fun _ hk=>hk.elim) (fun _ _=>trivial) HOB.out HBB.out (aAd HBB.out) (by have:=HOX.out.1;simp only[List.nil_append];omega) ?_;intro vC wC ho hb hg hat;obtain⟨Ad,cd,ed⟩:=Kd.R_slice ho;subst ed;rw[List.nil_append,show (x++[(j:Int)]).length=x.length+1 from List.length_append]at ho;have HD:=zK_ (Kd.R_mono (Kd.R_bound ho) (ok':=fun k=>wr.heap.size≤k) fun k hk=>hk.2.1);have HBC:=zK_ hb;clear ho hb hg hat)|((with_reducible refine aB4 (b:=.append) (xs:=#[.tmp 40,.tmp 47]) rfl ?_);at_builtin;refine Kd.S_append (Kd.slice 3 (Kd.int .i64)) (w0:=w) w.heap.size rfl (.tmp 40) (.tmp 47) 34 26 (.slice none 0 0) 24 rfl Try.underlying34 aGh rfl (by decide) (by omega) u5 (Cf.outS n L i++Cf.extS x j) (x++[(j:Int)]) [.slice Ad (x.length+1) cd] (fun k=>k<w1.heap.size∨w2.heap.size≤k) (fun k=>wr.heap.size≤k) rfl rfl (Kd.M_row (Kd.R_lower HD.out (aAd HBi.out))) (fun k hk=>⟨.inr (by have:=HJ.out;omega),fun e=>by have:=Kd.S_lt HSi.out k e.symm;omega⟩) (fun k hk=>.inr (by have:=HJ.out;have:=HBC.out.size;omega)) (Kd.S_mono (Kd.S_below (Kd.S_bound HSi.out) HBC.out) fun k hk=>⟨hk.1,fun h=>by have:=hk.2.2.1;omega⟩) (aA2 HBi.out HBC.out) (aAd (aA2 HBi.out HBC.out)) (by have:=HLA.out;omega) ?_;intro vE wE ho hb hg hat;have HOE:=zK_ ho;have HBE:=zK_ hb;have HLE:=zK_ (Kd.S_grown (Kd.S_below (Kd.S_bound HLi.out) HBC.out) hg fun k hk e=>by have:=HSi.out.choose_spec.1 k e.symm;have:=hk.1;omega);have HZE:=zK_ hg.size;have HRE:=zK_ (Kd.R_step (Kd.R_below HRj.out HBC.out) fun k hk hlt=>hg.block k hlt fun e=>by have:=HSi.out.choose_spec.1 k e.symm;have:=hk.1;have:=hk.2;omega);clear ho hb hg hat)));go_roundw
     case rel =>
      refine⟨j+1,by go_num,⟨by have:=HJ.out;omega,by have:=HJN.out;omega,by have:=HBC.out.size;have:=HZE.out;have:=HJ.out;omega⟩,HBE,⟨Kd.S_mono HLE.out fun k hk=>hk.1⟩,⟨?_⟩,HRE⟩;rw[Cf.extS_succ x HJ.out.1,← List.append_assoc];exact HOE.out
     case measure =>
      have:=HJN.out;(simp[intOf]);omega
    have d0:decide ((j:Int)<(n:Int))=false:=decide_eq_false (by omega);have d1:decide (j<n)=false:=decide_eq_false hj;(have hjn:j=n:=by have:=HJ.out;omega);subst hjn;clear hj;go_wp2;go_roundw
    case rel =>
     refine⟨i+1,by go_num,⟨by have:=HLT.out;omega,HJ.out.2.2⟩,HBi,HLi,⟨?_⟩⟩;rw[Cf.outS_succ _ HXI.out];exact HSi.out
    case measure =>
     have:=HLT.out;(simp[intOf]);omega
theorem aDu.calls (a0 a1:Int) (r:List (List Int)) (w:World) (h:aDu.f a0 a1=some r) :
  Calls Try.prog 78 #[.int .i64 a0,.int .i64 a1] w fun e w'=>∃ v0_:Value,e = .returned (v0_)∧Kd.S (Kd.slice 3 (Kd.int .i64)) 26 w' w.heap.size (fun _=>True) v0_ r∧Below w.heap.size w w':=by
 unfold aDu.f at h;split at h
 ·rename_i c;obtain⟨h0,h1,h2,h3⟩:=c;obtain⟨n,rfl⟩:=Int.eq_ofNat_of_zero_le h0;obtain⟨m,rfl⟩:=Int.eq_ofNat_of_zero_le h2;obtain rfl:=Option.some.inj h;exact aDu.callsN n (by omega) m (by omega) w
 ·cases h
def aB6.l0:Nat→List Int→Int→Int→Int→List (S57)→Int→List (S57)→Option (Bool)
 | 0,_,_,_,_,_,_,_=>none
 | k+1,f4,mP,lS,aT,aM,gP,fG=>if lS<mP then(if 0≤lS then(if lS<(f4.length:Int) then(if 0≤(rd f4 lS) then(if(rd f4 lS)<(aM.length:Int) then(if fG.length<8796093022208 then(aB6.l0 k f4 mP (wrap64 (lS+1)) aT aM gP (fG++[(⟨(aA4 aM (rd f4 lS)).f0,(aA4 aM (rd f4 lS)).f1⟩:S57)])) else(none)) else(none)) else(none)) else(none)) else(none)) else((aAo.f k gP fG).bind fun f5=>(some ((f5.length:Int)==aT)))
def aB6.f (k:Nat) (aD:Int) (aC:List (S57)) (l1:List Int):Option (Bool):=aB6.l0 k l1 (l1.length:Int) 0 aD aC aD ([]:List (S57))
theorem aB6.mono_l:∀ k,(∀ y0 y1 y2 y3 y4 y5 y6,LeO (aB6.l0 k y0 y1 y2 y3 y4 y5 y6) (aB6.l0 (k+1) y0 y1 y2 y3 y4 y5 y6))
 | 0=>fun _ _ _ _ _ _ _ r h=>by simp[aB6.l0]at h
 | k+1=>by
  have ih0:=aB6.mono_l k
  ·intro y0 y1 y2 y3 y4 y5 y6
   unfold aB6.l0
   exact aZf
theorem aB6.mono:∀ a0 a1 a2 k,LeO (aB6.f k a0 a1 a2) (aB6.f (k+1) a0 a1 a2):=by
 intro a0 a1 a2 k;have ih0:=aB6.mono_l k;unfold aB6.f;exact aZf
def aB6.T5:Bool×List (List Nat×List Nat):=(true,[([],[]),([0],[0]),([],[]),([2],[2]),([],[]),([3,4],[3,4]),([5],[5]),([6],[6]),([1,7],[1,7]),([0,1,2,3,4,5,6,7,8],[]),([9,8,8,0,1,2,3,4,5,6,7,8],[8,9])])
def aB6.B5:List Nat:=[0,1,0,4,0,28,60,124,255,511,1023]
theorem aB6.tab5:aFp .any (opsOf Try.f79 5)=aB6.T5:=by kernel_rfl
theorem aB6.bits5:aEa aB6.T5.2 aB6.B5=true:=by kernel_rfl
theorem aB6.calls (k:Nat) (aD:Int) (aI:Option Addr) (aG:Nat) (aC:List (S57)) (A1:Option Addr) (c1:Nat) (l1:List Int) (r:Bool) (w:World) (hr0_1:Kd.C k57 w aI aC.length aC) (hc0_1:aC.length≤aG) (hr1:Kd.C (Kd.int .i64) w A1 l1.length l1) (hc1:l1.length≤c1) (h:aB6.f k aD aC l1=some r) :
  Calls Try.prog 79 #[.agg #[.int .i64 aD,.slice aI aC.length aG],.slice A1 l1.length c1] w fun e w'=>e = .returned (.bool r)∧Below w.heap.size w w':=by
 have hu25:=Try.underlying25;have hu57:=Try.underlying57;have b5:=zK_ hr0_1;have bT:=zK_ hc0_1;clear hr0_1 hc0_1;have HR1:=zK_ hr1;have HC1:=zK_ hc1;clear hr1 hc1;have HB:=zK_ (Below.refl w.heap.size w);have H:(aB6.l0 k l1 (l1.length:Int) 0 aD aC aD ([]:List (S57)))=some r:=h;clear h;have H':=zK_ H;clear H;go_enter Try.func79,Try.ntmps79;(go_wp2_with (first|((with_reducible refine aAn (N:=2) rfl ?_);refine aAl ?hg (N:=2) ?hd (cs:=#[.int .i64 aD,.slice aI aC.length aG]) (t:=25) ?hr ?_;(case hd=>rfl);(case hg=>rfl);(case hr=>exact aCp);intro aE hg w3 hbox hb;have n_:=zA4 (aA2 zz2 hb) hbox (aDi:w.heap.size≤aE) (aDi:w.heap.size≤aE);clear HB;obtain⟨HB,aA,GW101,GE101⟩:=n_;clear hb hbox hg;have rI:=aC7 aA;have rH:=aC6 aA;have tW:=aA0 aA.out 0;have rG:=aA0 aA.out 1)|((with_reducible refine aAn (N:=5) rfl ?_);refine aAl ?hg (N:=5) ?hd (cs:=#[.int .i64 0,.slice none 0 0]) (t:=25) ?hr ?_;(case hd=>rfl);(case hg=>rfl);(case hr=>exact aCp);intro aU hg w5 hbox hb;have n_:=zA7 (aA3 (g:=aE) (o:=.cells #[.int .i64 aD,.slice aI aC.length aG] 25 (0,0)) zz0 hb) (aA2 zz1 hb) hbox (aEg:w.heap.size≤aU) (aEg:w.heap.size≤aU) (by rw[hg];exact Nat.ne_of_lt (aC3 (g:=aE) (o:=.cells #[.int .i64 aD,.slice aI aC.length aG] 25 (0,0)) zz0):aE≠aU) (by rw[hg];exact Nat.ne_of_gt (aC3 (g:=aE) (o:=.cells #[.int .i64 aD,.slice aI aC.length aG] 25 (0,0)) zz0):aU≠aE);clear aA HB;obtain⟨aA,HB,aH,GW102,GE102,b6,cQ⟩:=n_;clear hb hbox hg;have IA:=cQ.out;have GJ:=b6.out;have gI:=aC7 aH;have gH:=aC6 aH;have gE:=aA0 aH.out 0;have gD:=aA0 aH.out 1)));(go_loopg [13] k (fun kq v13 w'=>∃ (eV:Int) (bQ:List (S57)) (u103001:Value),v13 = .int .i64 eV∧Aside0 (aB6.l0 kq l1 (l1.length:Int) eV aD aC aD bQ=some r)∧Aside0 (kq≤k)∧Aside0 (Kd.R k57 57 w' w.heap.size (fun _=>True) u103001 bQ)∧Aside0 (w'.heap[aE]? = some (.cells #[.int .i64 aD,(.slice aI aC.length aG)] 25 (0,0)))∧Aside0 (w'.heap[aU]? = some (.cells #[.int .i64 aD,u103001] 25 (0,0)))∧Aside0 (Below w.heap.size w w')));case atStart=>exact⟨(0),(([]:List (S57))),(.slice none 0 0),zz6,H',⟨Nat.le_refl _⟩,⟨aRk⟩,⟨by(with_reducible repeat(first|refine aA8 ?_ _|refine aA9 ?_|refine aA7 ?_ _));refine aBv ?_ b6.out _;(with_reducible repeat(first|refine aA8 ?_ _|refine aA9 ?_|refine aA7 ?_ _));refine aBv ?_ b6.out _;(with_reducible repeat(first|refine aA8 ?_ _|refine aA9 ?_|refine aA7 ?_ _));exact aA.out⟩,⟨by(with_reducible repeat(first|refine aA8 ?_ _|refine aA9 ?_|refine aA7 ?_ _));refine aCd (cs:=#[.int .i64 aD,.slice none 0 0]) ?_ 1 _ rfl;(with_reducible repeat(first|refine aA8 ?_ _|refine aA9 ?_|refine aA7 ?_ _));refine aCd (cs:=#[.int .i64 0,.slice none 0 0]) ?_ 0 _ rfl;(with_reducible repeat(first|refine aA8 ?_ _|refine aA9 ?_|refine aA7 ?_ _));exact aH.out⟩,⟨aI5⟩⟩
 case round =>
  clear H';(try clear c1);(try clear p2);(try clear c6);(try clear c7);(try clear rI);(try clear rH);(try clear gI);(try clear gH);(try clear tW);(try clear rG);(try clear gE);(try clear gD);obtain⟨eV,bQ,u103001,rfl,HA,HK1,aJ,aA,aH,HB⟩:=hrel
  cases gk with
  | zero=>exact absurd HA.out (by simp[aB6.l0])
  | succ k1 =>
   have H:=HA.out;clear HA;simp only[aB6.l0]at H;by_cases c8:eV<(l1.length:Int);rotate_left
   ·rw[if_neg c8]at H;have iH:=decide_eq_false c8;clear c8;obtain⟨f5,A180,H⟩:=zO_ H;(try dsimp only at H);have A18:=zK_ A180;clear A180;obtain rfl:=Option.some.inj H;(try go_wp2);have n_:=zA4 (Kd.R_drew aJ.out) (aA9 aA.out) (aA9 aH.out) (aAs HB.out);clear aJ aA aH HB;obtain⟨aJ,aA,aH,HB⟩:=n_;obtain⟨Ao20,co20,CW⟩:=Kd.R_slice aJ.out;(first|subst CW|(injection CW with f1_ f2_ f3_;have f4_:=f1_.symm;have f5_:=f3_.symm;clear f1_ f2_ f3_;subst f4_;subst f5_));refine aE5 (n:=7) (S:=fun w'=>w'.cell? ⟨aU,0,none⟩=some (.int .i64 aD)∧w'.cell? ⟨aU,1,none⟩=some (.slice Ao20 bQ.length co20)∧w'.cell? ⟨aE,0,none⟩=some (.int .i64 aD)∧w'.cell? ⟨aE,1,none⟩=some (.slice aI aC.length aG)) (ds:=[]) (zM 7 0) (by kernel_rfl) rfl rfl ⟨(blk_cell aH.out 0).trans rfl,(blk_cell aH.out 1).trans rfl,(blk_cell aA.out 0).trans rfl,(blk_cell aA.out 1).trans rfl⟩ (fun hHeld=>?_);generalize wr.drew=w19 at aJ aA aH HB hHeld ⊢;refine pure_ (i:=3) (N:=some 31) (v:=?_) (a':=?_) (zM 7 8) rfl rfl (by kernel_rfl) (fun _ _ _ h=>h) (Or.inl ⟨by rfl,?_⟩) ?_ ?_;rotate_left
    ·intro w';exact zzT
    rotate_left
    ·exact zzS
    refine take_ (i:=0) (N:=some 28) (v:=?_) (a':=?_) (zM 7 9) rfl rfl (by kernel_rfl) (fun _ _ _ h=>h) (Or.inl ⟨by rfl,?_⟩) hHeld ?_ ?_;rotate_left
    ·rintro w' ⟨s0,s1,s2,s3⟩;exact zzT
    rotate_left
    ·exact zzS
    refine take_ (i:=4) (N:=some 32) (v:=?_) (a':=?_) (zM 7 25) rfl rfl (by kernel_rfl) (fun _ _ _ h=>h) (Or.inl ⟨by rfl,?_⟩) hHeld ?_ ?_;rotate_left
    ·rintro w' ⟨s0,s1,s2,s3⟩;exact zzT
    rotate_left
    ·exact zzS
    refine aFz (i:=1) (N:=some 29) (zM 7 27) rfl rfl (by kernel_rfl) (by decide) (fun K hK=>?_);refine aF2 Try.func94 (by kernel_rfl) rfl #[.agg #[.int .i64 aD,.slice Ao20 bQ.length co20]] (by rfl) rfl rfl zz3 ?_;(with_reducible refine(aAo.calls k1 aD _ _ bQ f5 _ ?side1 ?side2 A18.out).mono ?_);(case side1=>repeat(first|exact(Kd.R_reads' aJ.out).2.2|(with_reducible refine Kd.C_alloc ?_ _)|(with_reducible refine Kd.C_drewN ?_ _)|(with_reducible refine Kd.C_drew ?_)));(case side2=>exact(Kd.R_reads' aJ.out).2.1);rintro e w21 ⟨v109,rfl,ho0,hb⟩;refine⟨_,rfl,?_⟩;have n_:=zA5 (Kd.R_below aFo hb) (Kd.R_lower ho0 (aAd aI5)) (aA3 (g:=aE) (o:=.cells #[.int .i64 aD,.slice aI aC.length aG] 25 (0,0)) zz0 hb) (aA3 (g:=aU) (o:=.cells #[.int .i64 aD,.slice Ao20 bQ.length co20] 25 (0,0)) zz7 hb) (aA2 aI5 hb);clear aJ aA aH HB;obtain⟨aJ,uJ,aA,aH,HB⟩:=n_;clear ho0 hb;obtain⟨Ao22,co22,CV⟩:=Kd.R_slice uJ.out;(first|subst CV|(injection CV with f1_ f2_ f3_;have f4_:=f1_.symm;have f5_:=f3_.symm;clear f1_ f2_ f3_;subst f4_;subst f5_));refine hK.out _ _ ⟨(blk_cell aH.out 0).trans rfl,(blk_cell aH.out 1).trans rfl,(blk_cell aA.out 0).trans rfl,(blk_cell aA.out 1).trans rfl⟩ (fun hHeld=>?_);clear hK K;refine aDr (a':=?_) ?_ ?_;rotate_left
    ·show Act.put _ (some 29) _=_;exact zzS
    refine pure_ (i:=2) (N:=some 30) (v:=?_) (a':=?_) (zM 7 31) rfl rfl (by kernel_rfl) (fun _ _ _ h=>h) (Or.inl ⟨by rfl,?_⟩) ?_ ?_;rotate_left
    ·intro w';exact zzT
    rotate_left
    ·exact zzS
    refine pure_ (i:=5) (N:=some 33) (v:=?_) (a':=?_) (zM 7 63) rfl rfl (by kernel_rfl) (fun _ _ _ h=>h) (Or.inl ⟨by rfl,?_⟩) ?_ ?_;rotate_left
    ·intro w';exact zzT
    rotate_left
    ·exact zzS
    refine pure_ (i:=6) (N:=some 4) (v:=?_) (a':=?_) (zM 7 127) rfl rfl (by kernel_rfl) (fun _ _ _ h=>h) (Or.inl ⟨by rfl,?_⟩) ?_ ?_;rotate_left
    ·intro w';exact zzT
    rotate_left
    ·exact zzS
    refine aEq (by kernel_rfl) ?_;(try go_wp2);go_ret;exact⟨zz9,aI5⟩
   rw[if_pos c8]at H;have iH:=decide_eq_true c8;clear c8;by_cases c9:0≤eV;rotate_left
   ·rw[if_neg c9]at H;exact absurd H (by simp)
   rw[if_pos c9]at H;have iZ:=decide_eq_true c9;clear c9;by_cases c10:eV<(l1.length:Int);rotate_left
   ·rw[if_neg c10]at H;exact absurd H (by simp)
   rw[if_pos c10]at H;have g3:=decide_eq_true c10;clear c10;by_cases c11:0≤(rd l1 eV);rotate_left
   ·rw[if_neg c11]at H;exact absurd H (by simp)
   rw[if_pos c11]at H;have nL:=decide_eq_true c11;clear c11;by_cases c12:(rd l1 eV)<(aC.length:Int);rotate_left
   ·rw[if_neg c12]at H;exact absurd H (by simp)
   rw[if_pos c12]at H;have nE:=decide_eq_true c12;clear c12;by_cases c13:bQ.length<8796093022208;rotate_left
   ·rw[if_neg c13]at H;exact absurd H (by simp)
   rw[if_pos c13]at H;have D1:=zK_ c13;clear c13;obtain⟨jV,hy_⟩:∃ y_:List (S57),y_=(bQ++[(⟨(aA4 aC (rd l1 eV)).f0,(aA4 aC (rd l1 eV)).f1⟩:S57)]):=⟨_,rfl⟩;(replace H:(aB6.l0 k1 l1 (l1.length:Int) (wrap64 (eV+1)) aD aC aD jV)=some r:=zzY);have nM:=zK_ hy_;clear hy_;have H':=zK_ H;clear H;have p103:0≤(eV:Int):=of_decide_eq_true zz4;have q103:eV<(l1.length:Int):=of_decide_eq_true zz4;obtain⟨bR,e103,aX⟩:=Kd.at_int HR1.out eV p103 q103;cases e103;replace aX:=(HB.out.cell (World.block_lt_of_cell? w _ aX)).trans aX;replace p103:=eq_true p103;replace q103:=eq_true q103;(try go_wp2);have n_:=zA4 (Kd.R_drew aJ.out) (aA9 aA.out) (aA9 aH.out) (aAs HB.out);clear aJ aA aH HB;obtain⟨aJ,aA,aH,HB⟩:=n_;have p104:0≤((rd l1 eV):Int):=of_decide_eq_true zz4;have q104:(rd l1 eV)<(aC.length:Int):=of_decide_eq_true zz4;obtain⟨fC,e104,bZ,fB⟩:=aCo b5.out (rd l1 eV) p104 q104;have hw104_1:=fB;have hw104_0:=bZ;cases e104;replace bZ:=(HB.out.cell (World.block_lt_of_cell? w _ bZ)).trans bZ;replace fB:=(HB.out.cell (World.block_lt_of_cell? w _ fB)).trans fB;replace p104:=eq_true p104;replace q104:=eq_true q104;refine aE5 (n:=11) (S:=fun w'=>w'.cell? ⟨aU,0,none⟩=some (.int .i64 aD)∧w'.cell? ⟨aU,1,none⟩=some (u103001)∧w'.cell? ⟨aE,0,none⟩=some (.int .i64 aD)∧w'.cell? ⟨aE,1,none⟩=some (.slice (some fC) aC.length aG)∧w'.cell? (fC.add (((rd l1 eV)).toNat*2))=some (.int .i64 ((aA4 aC (rd l1 eV)).f0))∧w'.cell? ⟨(fC.add (((rd l1 eV)).toNat*2)).block,(fC.add (((rd l1 eV)).toNat*2)).off+1,none⟩=some (.int .i64 ((aA4 aC (rd l1 eV)).f1))) (ds:=[10]) (zM 11 0) (by kernel_rfl) rfl rfl ⟨(blk_cell aH.out 0).trans rfl,(blk_cell aH.out 1).trans rfl,(blk_cell aA.out 0).trans rfl,(blk_cell aA.out 1).trans rfl,((HB.out.cell (World.block_lt_of_cell? w _ hw104_0)).trans hw104_0),((HB.out.cell (World.block_lt_of_cell? w _ hw104_1)).trans hw104_1)⟩ (fun hHeld=>?_);refine aDc aB6.tab5 aB6.bits5 (fun HT_ HW_=>?_);generalize wr.drew=w14 at aJ aA aH HB bZ fB hHeld ⊢;refine zQ 0 17 (zM 11 1) ?_
   refine zQ 2 19 (zM 11 5) ?_
   refine zQ 4 21 (zM 11 21) ?_
   refine take_ (i:=1) (N:=some 18) (v:=?_) (a':=?_) (zM 11 23) rfl rfl (aC0 HT_.out HW_.out (by kernel_rfl)) (fun _ _ _ h=>h) (Or.inl ⟨by rfl,?_⟩) hHeld ?_ ?_;rotate_left
   ·rintro w' ⟨s0,s1,s2,s3,s4,s5⟩;exact zzT
   rotate_left
   ·exact zzS
   refine take_ (i:=3) (N:=some 20) (v:=?_) (a':=?_) (zM 11 31) rfl rfl (aC0 HT_.out HW_.out (by kernel_rfl)) (fun _ _ _ h=>h) (Or.inl ⟨by rfl,?_⟩) hHeld ?_ ?_;rotate_left
   ·rintro w' ⟨s0,s1,s2,s3,s4,s5⟩;exact zzT
   rotate_left
   ·exact zzS
   refine zQ 5 22 (zM 11 63) ?_
   refine take_ (i:=6) (N:=some 23) (v:=?_) (a':=?_) (zM 11 127) rfl rfl (aC0 HT_.out HW_.out (by kernel_rfl)) (fun _ _ _ h=>h) (Or.inl ⟨by rfl,?_⟩) hHeld ?_ ?_;rotate_left
   ·rintro w' ⟨s0,s1,s2,s3,s4,s5⟩;exact zzT
   rotate_left
   ·exact zzS
   refine aFz (i:=7) (N:=some 24) (zM 11 255) rfl rfl (aDo HT_.out (by kernel_rfl)) (by decide) (fun K hK=>?_);refine aSy (w1:=?_) (v:=?_) (by rfl) rfl ?_ ?_;rotate_left 2
   ·go_simp;constructor
    ·rfl
    ·rfl
   refine hK.out _ _ ⟨(blk_cell (aA7 aH.out _) 0).trans rfl,(blk_cell (aA7 aH.out _) 1).trans rfl,(blk_cell (aA7 aA.out _) 0).trans rfl,(blk_cell (aA7 aA.out _) 1).trans rfl,(World.cell?_alloc_lt _ _ _ (World.block_lt_of_cell? _ _ (((HB.out.cell (World.block_lt_of_cell? w _ hw104_0)).trans hw104_0)))).trans (((HB.out.cell (World.block_lt_of_cell? w _ hw104_0)).trans hw104_0)),(World.cell?_alloc_lt _ _ _ (World.block_lt_of_cell? _ _ (((HB.out.cell (World.block_lt_of_cell? w _ hw104_1)).trans hw104_1)))).trans (((HB.out.cell (World.block_lt_of_cell? w _ hw104_1)).trans hw104_1))⟩ (fun hHeld=>?_);clear hK K;refine aDr (a':=?_) ?_ ?_;rotate_left
   ·show Act.put _ (some 24) _=_;exact zzS
   refine aFz (i:=8) (N:=some 25) (zM 11 511) rfl rfl (aDo HT_.out (by kernel_rfl)) (by decide) (fun K hK=>?_);refine Kd.R_append_step k57 (w0:=w) w.heap.size (by rfl) (.tmp 18) (.tmp 24) 23 57 (.agg #[(.int .i64 0),(.int .i64 0)]) 16 rfl Try.underlying23 aFk rfl (by decide) (by omega) u103001 bQ (⟨(aA4 aC (rd l1 eV)).f0,(aA4 aC (rd l1 eV)).f1⟩:S57) [.int .i64 ((aA4 aC (rd l1 eV)).f0),.int .i64 ((aA4 aC (rd l1 eV)).f1)] (fun _=>True) (fun _=>False) rfl rfl ?aP (fun _ hk=>hk.elim) ?aF ?aO ?aB ?aS ?aL ?_;(case aP=>exact aEf _ _ _ (⟨(aA4 aC (rd l1 eV)).f0,(aA4 aC (rd l1 eV)).f1⟩:S57));(case aB=>exact aI5);(case aF=>exact(fun _ _=>trivial));(case aO=>exact aFo);(case aS=>exact(aAd aI5));(case aL=>have:=D1.out;omega);intro v106 w15 ho hb hg hat;rw[← nM.out]at ho;have n_:=zA4 (aAk (g:=aE) (o:=.cells #[.int .i64 aD,.slice (some fC) aC.length aG] 25 (0,0)) zz0 hg (Kd.R_ne aJ.out aA.out (by decide))) (aAk (g:=aU) (o:=.cells #[.int .i64 aD,u103001] 25 (0,0)) zz7 hg (Kd.R_ne aJ.out aH.out (by decide))) hb ho;clear aA aH HB aJ;obtain⟨aA,aH,HB,dQ⟩:=n_;clear ho hb hg hat;obtain⟨Ao16,co16,pT⟩:=Kd.R_slice dQ.out;(first|subst pT|(injection pT with f1_ f2_ f3_;have f4_:=f1_.symm;have f5_:=f3_.symm;clear f1_ f2_ f3_;subst f4_;subst f5_));refine hK.out _ _ ⟨(blk_cell aH.out 0).trans rfl,(blk_cell aH.out 1).trans rfl,(blk_cell aA.out 0).trans rfl,(blk_cell aA.out 1).trans rfl,((HB.out.cell (World.block_lt_of_cell? w _ hw104_0)).trans hw104_0),((HB.out.cell (World.block_lt_of_cell? w _ hw104_1)).trans hw104_1)⟩ (fun hHeld=>?_);clear hK K;refine aDr (a':=?_) ?_ ?_;rotate_left
   ·show Act.put _ (some 25) _=_;exact zzS
   refine zQ 9 26 (zM 11 1023) ?_
   refine aUc (i:=10) (N:=none) (zM 11 2047) rfl rfl (aDo HT_.out (by kernel_rfl)) (by decide) (fun K hK=>?_);have hs17:w15.cell? ⟨aU,1,none⟩=some (u103001):=(blk_cell aH.out 1).trans rfl;have hfs17:=aA0 aH.out 1;have hns17_0:=b6.out;have hms17_0:=cQ.out;refine aM8 (w1:=?_) (by rfl) rfl ?_ ?_;rotate_left
   ·go_simp;rfl
   refine hK.out _ _ ?_;clear hK K;refine aEq (aDy HT_.out (by kernel_rfl)) ?_;(try go_wp2);go_roundg k1;(case measure=>have:=HK1.out;omega);case rel=>exact⟨(wrap64 (eV+1)),(jV),(.slice Ao16 jV.length co16),zz6,H',⟨aG6⟩,⟨by(with_reducible repeat(first|apply Kd.R_alloc|apply Kd.R_drewN|apply Kd.R_drew));exact Kd.R_mono (Kd.R_far (p:=⟨aU,1,none⟩) (Kd.R_types dQ.out aH.out (by decide)) (fun _ hk=>hk.2) (.slice Ao16 jV.length co16)) (fun _ hk=>trivial)⟩,⟨by(with_reducible repeat(first|refine aA8 ?_ _|refine aA9 ?_|refine aA7 ?_ _));refine aBv ?_ b6.out _;(with_reducible repeat(first|refine aA8 ?_ _|refine aA9 ?_|refine aA7 ?_ _));exact aA.out⟩,⟨by(with_reducible repeat(first|refine aA8 ?_ _|refine aA9 ?_|refine aA7 ?_ _));refine aCd (cs:=#[.int .i64 aD,u103001]) ?_ 1 _ rfl;(with_reducible repeat(first|refine aA8 ?_ _|refine aA9 ?_|refine aA7 ?_ _));exact aH.out⟩,⟨aI5⟩⟩
mutual
def aB0.j0:Nat→Bool→Int→List (S57)→Option ((List (List Int))×Bool)
 | 0,_,_,_=>none
 | k+1,pV,aT,aM=>if pV=true then(some (([]:List (List Int)),false)) else((aDu.f (aM.length:Int) (wrap64 (aT-1))).bind fun cK=>(aB0.l0 k (([]:List (List Int))) cK (cK.length:Int) 0 aT aM))
def aB0.l0:Nat→List (List Int)→List (List Int)→Int→Int→Int→List (S57)→Option ((List (List Int))×Bool)
 | 0,_,_,_,_,_,_=>none
 | k+1,x4,uL,uS,uR,aT,aM=>if uR<uS then(if 0≤uR then(if uR<(uL.length:Int) then((aB6.f k aT aM (aBp uL uR)).bind fun jX=>(if jX=true then(if x4.length<5864062014805 then(aB0.l0 k (x4++[aBp uL uR]) uL uS (wrap64 (uR+1)) aT aM) else(none)) else(aB0.l0 k x4 uL uS (wrap64 (uR+1)) aT aM))) else(none)) else(none)) else(some (x4,true))
end
def aB0.f (k:Nat) (aD:Int) (aC:List (S57)):Option ((List (List Int))×Bool):=(aAi.f k aD aC).bind fun aW=>(if aW=true then((aC8.f k aD aC).bind fun bH=>(aB0.j0 k (decide (bH>400)) aD aC)) else(aB0.j0 k true aD aC))
theorem aB0.mono_l:∀ k,(∀ y0 y1 y2,LeO (aB0.j0 k y0 y1 y2) (aB0.j0 (k+1) y0 y1 y2))∧(∀ y0 y1 y2 y3 y4 y5,LeO (aB0.l0 k y0 y1 y2 y3 y4 y5) (aB0.l0 (k+1) y0 y1 y2 y3 y4 y5))
 | 0=>⟨fun _ _ _ r h=>by simp[aB0.j0]at h,fun _ _ _ _ _ _ r h=>by simp[aB0.l0]at h⟩
 | k+1=>by
  obtain⟨ih0,ih1⟩:=aB0.mono_l k
  refine⟨?_,?_⟩
  ·intro y0 y1 y2
   unfold aB0.j0
   exact zm8
  ·intro y0 y1 y2 y3 y4 y5
   unfold aB0.l0
   exact zm8
theorem aB0.mono:∀ a0 a1 k,LeO (aB0.f k a0 a1) (aB0.f (k+1) a0 a1):=by
 intro a0 a1 k;obtain⟨ih0,ih1⟩:=aB0.mono_l k;unfold aB0.f;exact zm8
theorem aB0.calls (k:Nat) (aD:Int) (aI:Option Addr) (aG:Nat) (aC:List (S57)) (r1:List (List Int)) (r2:Bool) (w:World) (hr0_1:Kd.C k57 w aI aC.length aC) (hc0_1:aC.length≤aG) (h:aB0.f k aD aC=some (r1,r2)) :
  Calls Try.prog 35 #[.agg #[.int .i64 aD,.slice aI aC.length aG]] w fun e w'=>∃ v0_:Value,e = .returned (.tuple #[v0_,.bool r2])∧Kd.N (Kd.slice 3 (Kd.int .i64)) 26 w' w.heap.size (fun k_=>(w.heap.size≤k_)) v0_ r1∧Below w.heap.size w w':=by
 have hu25:=Try.underlying25;have b5:=zK_ hr0_1;have bT:=zK_ hc0_1;clear hr0_1 hc0_1;have HB:=zK_ (Below.refl w.heap.size w);have H:((aAi.f k aD aC).bind fun aW=>(if aW=true then((aC8.f k aD aC).bind fun bH=>(aB0.j0 k (decide (bH>400)) aD aC)) else(aB0.j0 k true aD aC)))=some (r1,r2):=h;clear h;have HC2:=zK_ H;clear H;go_enter Try.func35,Try.ntmps35;(go_upto_region 1 with (first|((with_reducible refine aAn (N:=1) rfl ?_);refine aAl ?hg (N:=1) ?hd (cs:=#[.int .i64 aD,.slice aI aC.length aG]) (t:=25) ?hr ?_;(case hd=>rfl);(case hg=>rfl);(case hr=>exact aCp);intro aE hg w3 hbox hb;have n_:=zA4 (aA2 zz2 hb) hbox (aDi:w.heap.size≤aE) (aDi:w.heap.size≤aE);clear HB;obtain⟨HB,aA,GW101,GE101⟩:=n_;clear hb hbox hg)));(try simp only[Act.put,List.setIfInBounds_toArray,List.set_cons_zero,List.set_cons_succ]);go_cut [14] (fun v14 wc=>∃ (kq:Nat) (dE:Bool),v14 = .bool dE∧Aside0 (aB0.j0 kq dE aD aC=some (r1,r2))∧Aside0 (kq≤k)∧Aside0 (wc.heap[aE]? = some (.cells #[.int .i64 aD,(.slice aI aC.length aG)] 25 (0,0)))∧Aside0 (Below w.heap.size w wc))
 case first =>
  have H:=HC2.out;clear HC2;obtain⟨aW,A40,H⟩:=zO_ H;(try dsimp only at H);have A4:=zK_ A40;clear A40;by_cases c5:aW=true;rotate_left
  ·replace c5:=Bool.eq_false_iff.mpr c5;subst c5;rw[if_neg (show ¬ (false=true) by decide)]at H;have H':=zK_ H;clear H;have jO:=aC7 aA;have jN:=aC6 aA;have jG:=aA0 aA.out 0;have jF:=aA0 aA.out 1;(go_wp2_with (first|((with_reducible refine aAb (f:=55) rfl ?_);refine aBd (some 8) rfl rfl Try.func55 (by kernel_rfl) rfl #[.agg #[.int .i64 aD,.slice aI aC.length aG]] rfl zz3 ?_;(with_reducible refine(aAi.calls k aD _ _ aC false _ ?side1 ?side2 A4.out).mono ?_);(case side1=>exact zz5);(case side2=>exact bT.out);rintro e w12 ⟨rfl,hb⟩;refine⟨_,rfl,?_⟩;have n_:=zA2 (aA3 (g:=aE) (o:=.cells #[.int .i64 aD,.slice aI aC.length aG] 25 (0,0)) zz0 hb) (aA2 zz1 hb);clear aA HB;obtain⟨aA,HB⟩:=n_;clear hb)));(go_meet);case rel=>exact⟨_,(true),zz6,H',⟨by first|omega|exact Nat.le_refl _⟩,⟨zz0⟩,⟨zz1⟩⟩
  subst c5;rw[if_pos rfl]at H;obtain⟨bH,A60,H⟩:=zO_ H;(try dsimp only at H);have A6:=zK_ A60;clear A60;have H':=zK_ H;clear H;have gI:=aC7 aA;have gH:=aC6 aA;have gE:=aA0 aA.out 0;have gD:=aA0 aA.out 1;(go_wp2_with (first|((with_reducible refine aAb (f:=55) rfl ?_);refine aBd (some 8) rfl rfl Try.func55 (by kernel_rfl) rfl #[.agg #[.int .i64 aD,.slice aI aC.length aG]] rfl zz3 ?_;(with_reducible refine(aAi.calls k aD _ _ aC true _ ?side1 ?side2 A4.out).mono ?_);(case side1=>exact zz5);(case side2=>exact bT.out);rintro e w8 ⟨rfl,hb⟩;refine⟨_,rfl,?_⟩;have n_:=zA2 (aA3 (g:=aE) (o:=.cells #[.int .i64 aD,.slice aI aC.length aG] 25 (0,0)) zz0 hb) (aA2 zz1 hb);clear aA HB;obtain⟨aA,HB⟩:=n_;clear hb;have gG:=aC7 aA;have gF:=aC6 aA;have gC:=aA0 aA.out 0;have gB:=aA0 aA.out 1)|(go_at_call 77;(with_reducible refine(aC8.calls k aD _ _ aC bH _ ?side1 ?side2 A6.out).mono ?_);(case side1=>exact zz5);(case side2=>exact bT.out);rintro e w10 ⟨rfl,hb⟩;have n_:=zA2 (aA3 (g:=aE) (o:=.cells #[.int .i64 aD,.slice aI aC.length aG] 25 (0,0)) zz0 hb) (aA2 zz1 hb);clear aA HB;obtain⟨aA,HB⟩:=n_;(try clear hb);(try clear hb2);(try clear hk);(try clear hi))));(go_meet);case rel=>exact⟨_,(decide (bH>400)),zz6,H',⟨by first|omega|exact Nat.le_refl _⟩,⟨zz0⟩,⟨zz1⟩⟩
 case rest =>
  clear HC2;(try clear p2);(try clear c3);(try clear c5);(try clear jO);(try clear jN);(try clear gI);(try clear gH);(try clear gG);(try clear gF);(try clear jG);(try clear jF);(try clear gE);(try clear gD);(try clear gC);(try clear gB);obtain⟨kq,dE,rfl,HA,HJ1,aA,HB⟩:=hcut
  cases kq with
  | zero=>exact absurd HA.out (by simp[aB0.j0])
  | succ kj1 =>
   have H:=HA.out;clear HA;simp only[aB0.j0]at H;by_cases c13:dE=true
   ·subst c13;rw[if_pos rfl]at H;simp only[Option.some.injEq,Prod.mk.injEq]at H;obtain⟨rfl,rfl⟩:=H;go_wp2;(go_ret2);exact⟨_,zz9,aRm,zz1⟩
   replace c13:=Bool.eq_false_iff.mpr c13;subst c13;rw[if_neg (show ¬ (false=true) by decide)]at H;obtain⟨pW,hy_⟩:∃ y_:List (List Int),y_=(([]:List (List Int))):=⟨_,rfl⟩;(replace H:((aDu.f (aC.length:Int) (wrap64 (aD-1))).bind fun cK=>(aB0.l0 kj1 pW cK (cK.length:Int) 0 aD aC))=some (r1,r2):=zzY);have oW:=zK_ hy_;clear hy_;obtain⟨cK,A140,H⟩:=zO_ H;(try dsimp only at H);have A14:=zK_ A140;clear A140;have H':=zK_ H;clear H;(go_wp2_with (first|((with_reducible refine aAn (N:=15) rfl ?_);refine Kd.N_lit (Kd.slice 3 (Kd.int .i64)) _ 26 ?hg (N':=15) ?hd (xs:=([]:List (List Int))) (inner:=[]) (ok:=(fun k_=>(w.heap.size≤k_)∧k_≠aE)) (okp:=(fun k_=>(w.heap.size≤k_)∧k_≠aE)) ?hr ?hp (fun _ hk=>hk) ((show ∀ k_,wc.heap.size≤k_→(fun k_=>(w.heap.size≤k_)∧k_≠aE) k_ from fun k_ hk=>⟨(Nat.le_trans (aAd zz1) hk),Kd.freshB (g:=aE) (o:=.cells #[.int .i64 aD,.slice aI aC.length aG] 25 (0,0)) zz0 k_ hk⟩) _ (Nat.le_refl _)) (Below.refl _ _) (Nat.le_refl _) (by simp) ?_;(case hd=>rfl);(case hg=>rfl);(case hr=>exact aCp);(case hp=>exact(aDs.none _ _));intro v105 w15 ho16 hb hg_ hnew_;clear hg_ hnew_;(first|rw[← oW.out]at ho16|(simp only[Int.reduceToNat]at ho16;rw[← oW.out]at ho16));have n_:=zA3 (Kd.N_lower ho16 (aAd zz1)) (aA3 (g:=aE) (o:=.cells #[.int .i64 aD,.slice aI aC.length aG] 25 (0,0)) zz0 hb) (aA2 zz1 hb);clear aA HB;obtain⟨mD,aA,HB⟩:=n_;clear hb ho16;have kK:=aC7 aA;have kJ:=aC6 aA;have kC:=aA0 aA.out 0;have kB:=aA0 aA.out 1)|((with_reducible refine aAb (f:=78) rfl ?_);refine aBd (some 22) rfl rfl Try.func78 (by kernel_rfl) rfl #[.int .i64 (aC.length:Int),.int .i64 (wrap64 (aD-1))] rfl zz3 ?_;(with_reducible refine(aDu.calls (aC.length:Int) (wrap64 (aD-1)) cK _ A14.out).mono ?_);rintro e w18 ⟨v108,rfl,ho0,hb⟩;refine⟨_,rfl,?_⟩;have n_:=zA4 (Kd.N_elder' (by(with_reducible repeat(first|apply Kd.N_alloc|apply Kd.N_drewN|apply Kd.N_drew));exact mD.out) (Kd.N_base (Kd.S_N ho0)) hb) (Kd.N_lower (Kd.N_mono (ok':=fun k_=>(w.heap.size≤k_)∧some k_≠(v105:Value).ownBlock∧k_≠aE) (Kd.S_N (Kd.S_bound ho0)) (fun k_ hk_=>⟨(Nat.le_trans (aAd zz1) hk_.2.1),(Kd.fresh' (Kd.N_lt (by(with_reducible repeat(first|apply Kd.N_alloc|apply Kd.N_drewN|apply Kd.N_drew));exact mD.out)) k_ hk_.2.1),(Kd.freshB (g:=aE) (o:=.cells #[.int .i64 aD,.slice aI aC.length aG] 25 (0,0)) zz0 k_ hk_.2.1)⟩)) (aAd zz1)) (aA3 (g:=aE) (o:=.cells #[.int .i64 aD,.slice aI aC.length aG] 25 (0,0)) zz0 hb) (aA2 zz1 hb);clear mD aA HB;obtain⟨mD,dW,aA,HB⟩:=n_;clear ho0 hb;obtain⟨Ao19,co19,vV⟩:=Kd.N_slice dW.out;subst vV)));(go_loopg [4,24] kj1 (fun kq v4 v24 w'=>∃ (q9:List (List Int)) (fT:Int),v24 = .int .i64 fT∧Aside0 (aB0.l0 kq q9 cK (cK.length:Int) fT aD aC=some (r1,r2))∧Aside0 (kq≤kj1)∧Aside0 (Kd.N (Kd.slice 3 (Kd.int .i64)) 26 w' w.heap.size (fun k_=>(w.heap.size≤k_)∧some k_≠((.slice Ao19 cK.length co19):Value).ownBlock∧k_≠aE) v4 q9)∧Aside0 (Kd.N (Kd.slice 3 (Kd.int .i64)) 26 w' w.heap.size (fun k_=>(w.heap.size≤k_)∧some k_≠(v4:Value).ownBlock∧k_≠aE) (.slice Ao19 cK.length co19) cK)∧Aside0 (w'.heap[aE]? = some (.cells #[.int .i64 aD,(.slice aI aC.length aG)] 25 (0,0)))∧Aside0 (Below w.heap.size w w')));case atStart=>exact⟨(pW),(0),zz6,H',⟨Nat.le_refl _⟩,⟨by(with_reducible repeat(first|apply Kd.N_alloc|apply Kd.N_drewN|apply Kd.N_drew));exact Kd.N_mono mD.out (fun _ hk=>⟨hk.1.1,⟨hk.2,hk.1.2⟩⟩)⟩,⟨by(with_reducible repeat(first|apply Kd.N_alloc|apply Kd.N_drewN|apply Kd.N_drew));exact dW.out⟩,⟨zz0⟩,⟨zz1⟩⟩
   case round =>
    clear H';(try clear c1);(try clear p2);(try clear c3);(try clear c5);(try clear p6);(try clear c7);(try clear c13);(try clear jO);(try clear jN);(try clear kK);(try clear kJ);(try clear gI);(try clear gH);(try clear gG);(try clear gF);(try clear jG);(try clear jF);(try clear kC);(try clear kB);(try clear gE);(try clear gD);(try clear gC);(try clear gB);(try clear p2);obtain⟨q9,fT,rfl,HA,HK2,mC,iK,aA,HB⟩:=hrel
    cases gk with
    | zero=>exact absurd HA.out (by simp[aB0.l0])
    | succ k2 =>
     have H:=HA.out;clear HA;simp only[aB0.l0]at H;by_cases c20:fT<(cK.length:Int);rotate_left
     ·rw[if_neg c20]at H;have qQ:=decide_eq_false c20;(try(have oF:=qQ;first|rw[lD]at oF|rw[← lD]at oF));clear c20;simp only[Option.some.injEq,Prod.mk.injEq]at H;obtain⟨rfl,rfl⟩:=H;go_wp2;(go_ret2);exact⟨_,zz9,by(with_reducible repeat(first|apply Kd.N_alloc|apply Kd.N_drewN|apply Kd.N_drew));exact Kd.N_mono mC.out (fun _ hk=>hk.1),zz1⟩
     rw[if_pos c20]at H;have qQ:=decide_eq_true c20;clear c20;by_cases c21:0≤fT;rotate_left
     ·rw[if_neg c21]at H;exact absurd H (by simp)
     rw[if_pos c21]at H;have nK:=decide_eq_true c21;clear c21;by_cases c22:fT<(cK.length:Int);rotate_left
     ·rw[if_neg c22]at H;exact absurd H (by simp)
     rw[if_pos c22]at H;have oS:=decide_eq_true c22;clear c22;obtain⟨jX,A230,H⟩:=zO_ H;(try dsimp only at H);have A23:=zK_ A230;clear A230;by_cases c24:jX=true;rotate_left
     ·replace c24:=Bool.eq_false_iff.mpr c24;subst c24;rw[if_neg (show ¬ (false=true) by decide)]at H;have H':=zK_ H;clear H;have p110:0≤(fT:Int):=of_decide_eq_true zz4;have q110:fT<(cK.length:Int):=of_decide_eq_true zz4;obtain⟨oV,A110_0,c110_0,e110,pF,lD,hi110_0⟩:=aG4 (Kd.N_reads' iK.out).2.2 fT p110 q110;cases e110;obtain⟨ce110,hce110,hMe110,hcc110⟩:=Kd.N_get iK.out [] fT p110 (by first|exact q110|exact of_decide_eq_true zz4|(have e_:=(Kd.N_reads' iK.out).1;omega));obtain⟨ua110_0,uc110_0,rfl,ul110_0,ge110_0⟩:=Kd.FK_slice_open hMe110;have hv110_0:=hcc110 0 _ rfl;rw[Nat.add_zero,show ((Kd.slice 3 (Kd.int .i64))).sz=1 from rfl,Nat.mul_one]at hv110_0;replace hv110_0:=Option.some.inj (hv110_0.symm.trans pF);injection hv110_0 with hva_ hvn_ hvc_;rw[hva_]at ge110_0;rw[hvc_]at ul110_0;have HL110_0:=zK_ (show Kd.V (Kd.int .i64) 3 _ w.heap.size _ _ (aBp cK fT) from Kd.V_mk ul110_0 ge110_0);clear hva_ hvn_ hvc_ ge110_0 ul110_0;clear hcc110 hce110;have HR110_0:=zK_ hi110_0;have HC110_0:=zK_ lD;clear hi110_0 lD;replace p110:=eq_true p110;replace q110:=eq_true q110;have mL:=aC7 aA;have mK:=aC6 aA;have mH:=aA0 aA.out 0;have mG:=aA0 aA.out 1;(go_wp2_with (first|((with_reducible refine aAb (f:=79) rfl ?_);refine aBd (some 30) rfl rfl Try.func79 (by kernel_rfl) rfl #[.agg #[.int .i64 aD,.slice aI aC.length aG],.slice A110_0 (aBp cK fT).length c110_0] rfl zz3 ?_;(with_reducible refine(aB6.calls k2 aD _ _ aC _ _ (aBp cK fT) false _ ?side1 ?side2 ?side3 ?side4 A23.out).mono ?_);(case side1=>exact zz5);(case side2=>exact bT.out);(case side3=>repeat(first|exact aYb|(with_reducible refine Kd.C_alloc ?_ _)|(with_reducible refine Kd.C_drewN ?_ _)|(with_reducible refine Kd.C_drew ?_)));(case side4=>exact HC110_0.out);rintro e w30 ⟨rfl,hb⟩;refine⟨_,rfl,?_⟩;have n_:=zA6 (Kd.N_below (by(with_reducible repeat(first|apply Kd.N_alloc|apply Kd.N_drewN|apply Kd.N_drew));exact mC.out) hb) (Kd.N_below (by(with_reducible repeat(first|apply Kd.N_alloc|apply Kd.N_drewN|apply Kd.N_drew));exact iK.out) hb) (Kd.V_below (by(with_reducible repeat(first|apply Kd.V_alloc|apply Kd.V_drewN|apply Kd.V_drew));exact HL110_0.out) hb) (aA3 (g:=aE) (o:=.cells #[.int .i64 aD,.slice aI aC.length aG] 25 (0,0)) zz0 hb) (Kd.C_below aYb hb) (aA2 zz1 hb);clear mC iK HL110_0 aA HR110_0 HB;obtain⟨mC,iK,HL110_0,aA,HR110_0,HB⟩:=n_;clear hb)));go_roundg k2;(case measure=>have:=HJ1.out;have:=HK2.out;omega);case rel=>exact⟨(q9),(wrap64 (fT+1)),zz6,H',⟨by have:=HJ1.out;have:=HK2.out;omega⟩,⟨by(with_reducible repeat(first|apply Kd.N_alloc|apply Kd.N_drewN|apply Kd.N_drew));exact mC.out⟩,⟨by(with_reducible repeat(first|apply Kd.N_alloc|apply Kd.N_drewN|apply Kd.N_drew));exact iK.out⟩,⟨zz0⟩,⟨zz1⟩⟩
     subst c24;rw[if_pos rfl]at H;by_cases c25:q9.length<5864062014805;rotate_left
     ·rw[if_neg c25]at H;exact absurd H (by simp)
     rw[if_pos c25]at H;have q3:=zK_ c25;clear c25;obtain⟨xX,hy_⟩:∃ y_:List (List Int),y_=(q9++[aBp cK fT]):=⟨_,rfl⟩;(replace H:(aB0.l0 k2 xX cK (cK.length:Int) (wrap64 (fT+1)) aD aC)=some (r1,r2):=zzY);have DR:=zK_ hy_;clear hy_;have H':=zK_ H;clear H;have p110:0≤(fT:Int):=of_decide_eq_true zz4;have q110:fT<(cK.length:Int):=of_decide_eq_true zz4;obtain⟨oV,A110_0,c110_0,e110,pF,lD,hi110_0⟩:=aG4 (Kd.N_reads' iK.out).2.2 fT p110 q110;cases e110;obtain⟨ce110,hce110,hMe110,hcc110⟩:=Kd.N_get iK.out [] fT p110 (by first|exact q110|exact of_decide_eq_true zz4|(have e_:=(Kd.N_reads' iK.out).1;omega));obtain⟨ua110_0,uc110_0,rfl,ul110_0,ge110_0⟩:=Kd.FK_slice_open hMe110;have hv110_0:=hcc110 0 _ rfl;rw[Nat.add_zero,show ((Kd.slice 3 (Kd.int .i64))).sz=1 from rfl,Nat.mul_one]at hv110_0;replace hv110_0:=Option.some.inj (hv110_0.symm.trans pF);injection hv110_0 with hva_ hvn_ hvc_;rw[hva_]at ge110_0;rw[hvc_]at ul110_0;have HL110_0:=zK_ (show Kd.V (Kd.int .i64) 3 _ w.heap.size _ _ (aBp cK fT) from Kd.V_mk ul110_0 ge110_0);clear hva_ hvn_ hvc_ ge110_0 ul110_0;clear hcc110 hce110;have HR110_0:=zK_ hi110_0;have HC110_0:=zK_ lD;clear hi110_0 lD;replace p110:=eq_true p110;replace q110:=eq_true q110;have kG:=aC7 aA;have kF:=aC6 aA;have j8:=aA0 aA.out 0;have j7:=aA0 aA.out 1;(go_wp2_with (first|((with_reducible refine aAb (f:=79) rfl ?_);refine aBd (some 30) rfl rfl Try.func79 (by kernel_rfl) rfl #[.agg #[.int .i64 aD,.slice aI aC.length aG],.slice A110_0 (aBp cK fT).length c110_0] rfl zz3 ?_;(with_reducible refine(aB6.calls k2 aD _ _ aC _ _ (aBp cK fT) true _ ?side1 ?side2 ?side3 ?side4 A23.out).mono ?_);(case side1=>exact zz5);(case side2=>exact bT.out);(case side3=>repeat(first|exact aYb|(with_reducible refine Kd.C_alloc ?_ _)|(with_reducible refine Kd.C_drewN ?_ _)|(with_reducible refine Kd.C_drew ?_)));(case side4=>exact HC110_0.out);rintro e w27 ⟨rfl,hb⟩;refine⟨_,rfl,?_⟩;have n_:=zA6 (Kd.N_below (by(with_reducible repeat(first|apply Kd.N_alloc|apply Kd.N_drewN|apply Kd.N_drew));exact mC.out) hb) (Kd.N_below (by(with_reducible repeat(first|apply Kd.N_alloc|apply Kd.N_drewN|apply Kd.N_drew));exact iK.out) hb) (Kd.V_below (by(with_reducible repeat(first|apply Kd.V_alloc|apply Kd.V_drewN|apply Kd.V_drew));exact HL110_0.out) hb) (aA3 (g:=aE) (o:=.cells #[.int .i64 aD,.slice aI aC.length aG] 25 (0,0)) zz0 hb) (Kd.C_below aYb hb) (aA2 zz1 hb);clear mC iK HL110_0 aA HR110_0 HB;obtain⟨mC,iK,HL110_0,aA,HR110_0,HB⟩:=n_;clear hb)|((with_reducible refine aB4 (b:=.append) (xs:=#[.tmp 31,.tmp 33]) rfl ?_);at_builtin;refine Kd.N_append (Kd.slice 3 (Kd.int .i64)) (w0:=w) w.heap.size rfl (.tmp 31) (.tmp 33) 34 26 (.slice none 0 0) 24 rfl Try.underlying34 aGh rfl (by decide) (by omega) u4 q9 (aBp cK fT) [.slice A110_0 (aBp cK fT).length c110_0] (fun k_=>(w.heap.size≤k_)∧some k_≠(.slice (some oV) cK.length co19:Value).ownBlock∧k_≠aE) (fun k_=>((fun k_=>(w.heap.size≤k_)∧some k_≠(.slice (some oV) cK.length co19:Value).ownBlock∧k_≠aE)) k_∧some k_≠(u4:Value).ownBlock) rfl rfl ?aP (fun _ hk=>hk) ?aF ?aO ?aB ?aS ?aL ?_;(case aP=>exact(Kd.FK_slice_mk (Kd.V_reads' (Kd.V_mono (ok':=(fun k_=>((fun k_=>(w.heap.size≤k_)∧some k_≠(.slice (some oV) cK.length co19:Value).ownBlock∧k_≠aE)) k_∧some k_≠(u4:Value).ownBlock)) (HL110_0.out) (fun k_ hk=>⟨⟨hk.1.1,⟨hk.2,hk.1.2.2⟩⟩,hk.1.2.1⟩))).2.1 (Kd.V_F (Kd.V_mono (ok':=(fun k_=>((fun k_=>(w.heap.size≤k_)∧some k_≠(.slice (some oV) cK.length co19:Value).ownBlock∧k_≠aE)) k_∧some k_≠(u4:Value).ownBlock)) (HL110_0.out) (fun k_ hk=>⟨⟨hk.1.1,⟨hk.2,hk.1.2.2⟩⟩,hk.1.2.1⟩)))));(case aB=>exact zz1);(case aF=>exact(fun k_ hk=>⟨(Nat.le_trans (aAd zz1) hk),Kd.fresh' (Kd.N_lt (by(with_reducible repeat(first|apply Kd.N_alloc|apply Kd.N_drewN|apply Kd.N_drew));exact iK.out)) k_ hk,Kd.freshB (g:=aE) (o:=.cells #[.int .i64 aD,.slice aI aC.length aG] 25 (0,0)) zz0 k_ hk⟩));(case aO=>exact(by(with_reducible repeat(first|apply Kd.N_alloc|apply Kd.N_drewN|apply Kd.N_drew));exact mC.out));(case aS=>exact(aAd zz1));(case aL=>have:=q3.out;omega);intro v113 w28 ho hb hg hat;rw[← DR.out]at ho;have n_:=zA5 (Kd.N_afterv (ok:=(fun k_=>(w.heap.size≤k_)∧k_≠aE)) (by(with_reducible repeat(first|apply Kd.N_alloc|apply Kd.N_drewN|apply Kd.N_drew));exact Kd.N_mono iK.out (fun _ hk=>⟨⟨hk.1,hk.2.2⟩,hk.2.1⟩)) hg hat) (aAk (g:=aE) (o:=.cells #[.int .i64 aD,.slice aI aC.length aG] 25 (0,0)) zz0 hg (Kd.N_ne mC.out aA.out (by decide))) (Kd.V_afterv (ok:=(fun k_=>(w.heap.size≤k_)∧some k_≠(.slice (some oV) cK.length co19:Value).ownBlock∧k_≠aE)) (by(with_reducible repeat(first|apply Kd.V_alloc|apply Kd.V_drewN|apply Kd.V_drew));exact Kd.V_mono HL110_0.out (fun _ hk=>⟨⟨hk.1.1,⟨hk.2,hk.1.2.2⟩⟩,hk.1.2.1⟩)) hg hat) hb ho;clear iK aA HL110_0 HB mC;obtain⟨iK,aA,HL110_0,HB,D6⟩:=n_;clear ho hb hg hat)));go_roundg k2;(case measure=>have:=HJ1.out;have:=HK2.out;omega);case rel=>exact⟨(xX),(wrap64 (fT+1)),zz6,H',⟨by have:=HJ1.out;have:=HK2.out;omega⟩,⟨by(with_reducible repeat(first|apply Kd.N_alloc|apply Kd.N_drewN|apply Kd.N_drew));exact D6.out⟩,⟨by(with_reducible repeat(first|apply Kd.N_alloc|apply Kd.N_drewN|apply Kd.N_drew));exact Kd.N_mono iK.out (fun _ hk=>⟨hk.1.1,⟨hk.2,hk.1.2⟩⟩)⟩,⟨zz0⟩,⟨zz1⟩⟩
end Go.Proofs.Ytnbljcgdgblgoaa.P
end
section
namespace Go.Proofs.Ytnbljcgdgblgoaa.P
open Go.RowKit Go.Proofs.YtnbljcgdgblgoaaW.PrintWords Go.Proofs.YtnbljcgdgblgoaaW.PrintLast Go.Proofs.YtnbljcgdgblgoaaW.PrintMore
attribute [local go_sem] aCt aCr aDb aDa aCa aC9 aCs aCq
def aC1.f (k:Nat) (l0:List Int):Option (Int×(List (S57))×List Int):=(aBg.f k l0).bind fun fK=>((aD9.f k fK.1 fK.2.1 fK.2.2).bind fun gX=>((aB0.f k gX.1 gX.2.1).bind fun iW=>(if iW.2=true then((aBj.f fK.1 gX.2.2.1 gX.2.2.2 (iW.1.length:Int)).bind fun oJ=>(if 0≤oJ.1 then(if oJ.1<(iW.1.length:Int) then(some (gX.1,gX.2.1,aBp iW.1 oJ.1)) else(none)) else(none))) else((some (([(⟨0,1⟩:S57),(⟨0,2⟩:S57),(⟨1,2⟩:S57)]:List (S57)):List (S57))).bind fun iY=>((aB0.f k 3 iY).bind fun iV=>((aBj.f fK.1 gX.2.2.1 gX.2.2.2 (iV.1.length:Int)).bind fun l9=>(if 0≤l9.1 then(if l9.1<(iV.1.length:Int) then(some (3,iY,aBp iV.1 l9.1)) else(none)) else(none))))))))
theorem aC1.mono:∀ a0 k,LeO (aC1.f k a0) (aC1.f (k+1) a0):=by
 intro a0 k;unfold aC1.f;repeat' first|(with_reducible apply aB0.mono)|(with_reducible apply aBg.mono)|(with_reducible apply aD9.mono)|(with_reducible exact LeO.refl _)|(with_reducible exact LeO.none _)|(with_reducible refine LeO.ite ?_ ?_)|(with_reducible refine LeO.bind ?_ (fun _=>?_))|apply aB0.mono|apply aBg.mono|apply aD9.mono|exact LeO.none _|refine LeO.ite ?_ ?_|refine LeO.bind ?_ (fun _=>?_)
def aC1.T7:Bool×List (List Nat×List Nat):=(true,[([],[]),([],[]),([],[]),([],[]),([3],[3]),([2,4],[2,4]),([1,5],[1,5]),([6],[6]),([0,5,0],[0]),([7,8,0,1,2,3,4,5,6,7,8],[7])])
def aC1.B7:List Nat:=[0,0,0,0,8,28,62,126,61,511]
theorem aC1.tab7:aFp .any (opsOf Try.f8 7)=aC1.T7:=by kernel_rfl
theorem aC1.bits7:aEa aC1.T7.2 aC1.B7=true:=by kernel_rfl
theorem aC1.calls (k:Nat) (A0:Option Addr) (c0:Nat) (l0:List Int) (r1:Int) (r2:List (S57)) (r3:List Int) (w:World) (hr0:Kd.C (Kd.int .u8) w A0 l0.length l0) (hc0:l0.length≤c0) (h:aC1.f k l0=some (r1,r2,r3)) :
  Calls Try.prog 8 #[.slice A0 l0.length c0] w fun e w'=>∃ v1_ v2_:Value,e = .returned (.tuple #[.agg #[.int .i64 r1,v1_],v2_])∧Kd.R k57 57 w' w.heap.size (fun k_=>(w.heap.size≤k_)) v1_ r2∧Kd.V (Kd.int .i64) 3 w' w.heap.size (fun k_=>(w.heap.size≤k_)∧some k_≠(v1_:Value).ownBlock) v2_ r3∧Below w.heap.size w w':=by
 have hu25:=Try.underlying25;have hu57:=Try.underlying57;have HR0:=zK_ hr0;have HC0:=zK_ hc0;clear hr0 hc0;have HB:=zK_ (Below.refl w.heap.size w);have H:((aBg.f k l0).bind fun fK=>((aD9.f k fK.1 fK.2.1 fK.2.2).bind fun gX=>((aB0.f k gX.1 gX.2.1).bind fun iW=>(if iW.2=true then((aBj.f fK.1 gX.2.2.1 gX.2.2.2 (iW.1.length:Int)).bind fun oJ=>(if 0≤oJ.1 then(if oJ.1<(iW.1.length:Int) then(some (gX.1,gX.2.1,aBp iW.1 oJ.1)) else(none)) else(none))) else((some (([(⟨0,1⟩:S57),(⟨0,2⟩:S57),(⟨1,2⟩:S57)]:List (S57)):List (S57))).bind fun iY=>((aB0.f k 3 iY).bind fun iV=>((aBj.f fK.1 gX.2.2.1 gX.2.2.2 (iV.1.length:Int)).bind fun l9=>(if 0≤l9.1 then(if l9.1<(iV.1.length:Int) then(some (3,iY,aBp iV.1 l9.1)) else(none)) else(none)))))))))=some (r1,r2,r3):=h;clear h;replace H:=zO_ H;obtain⟨⟨aW,bH,iO⟩,A20,H⟩:=H;dsimp only at H;have A2:=zK_ A20;clear A20;replace H:=zO_ H;obtain⟨⟨cJ,cK,gW,jX⟩,A30,H⟩:=H;dsimp only at H;have A3:=zK_ A30;clear A30;replace H:=zO_ H;obtain⟨⟨lB,pY⟩,A40,H⟩:=H;dsimp only at H;have A4:=zK_ A40;clear A40;by_cases c5:pY=true
 ·subst c5;rw[if_pos rfl]at H;replace H:=zO_ H;obtain⟨⟨jP,oC,o7⟩,A60,H⟩:=H;dsimp only at H;have A6:=zK_ A60;clear A60;by_cases c7:0≤jP;rotate_left
  ·rw[if_neg c7]at H;exact absurd H (by simp)
  rw[if_pos c7]at H;have f6:=decide_eq_true c7;clear c7;by_cases c8:jP<(lB.length:Int);rotate_left
  ·rw[if_neg c8]at H;exact absurd H (by simp)
  rw[if_pos c8]at H;have iH:=decide_eq_true c8;clear c8;simp only[Option.some.injEq,Prod.mk.injEq]at H;obtain⟨rfl,rfl,rfl⟩:=H;go_enter Try.func8,Try.ntmps8;(try go_wp2_with (first|((with_reducible refine aAn (N:=2) rfl ?_);refine aAl ?hg (N:=2) ?hd (cs:=#[.int .i64 0,.slice none 0 0]) (t:=25) ?hr ?_;(case hd=>rfl);(case hg=>rfl);(case hr=>exact aCp);intro aE hg w9 hbox hb;have n_:=zA4 (aA2 zz2 hb) hbox (aDi:w.heap.size≤aE) (aDi:w.heap.size≤aE);clear HB;obtain⟨HB,aA,GW101,GE101⟩:=n_;clear hb hbox hg)|((with_reducible refine aAb (f:=33) rfl ?_);refine aBd (some 9) rfl rfl Try.func33 (by kernel_rfl) rfl #[.slice A0 l0.length c0] rfl zz3 ?_;(with_reducible refine(aBg.calls k _ _ l0 aW bH iO w _ ?side1 ?side2 ?side3 A2.out).mono ?_);(case side1=>repeat(first|(with_reducible first|exact HB.out|apply aAz|apply aAj|apply aAs|refine aAh ?_ GE101.out)|exact HB.out));(case side2=>exact HR0.out);(case side3=>exact HC0.out);rintro e w10 ⟨g105,rfl,hi,hb,hb2⟩;refine⟨_,rfl,?_⟩;have n_:=zA5 (aA3 (g:=aE) (o:=.cells #[.int .i64 0,.slice none 0 0] 25 (0,0)) zz0 hb2) hb hi (aA5.ne_blk hi (aA3 (g:=aE) (o:=.cells #[.int .i64 0,.slice none 0 0] 25 (0,0)) zz0 hb2) (by decide)) (Ne.symm (aA5.ne_blk hi (aA3 (g:=aE) (o:=.cells #[.int .i64 0,.slice none 0 0] 25 (0,0)) zz0 hb2) (by decide)));clear aA HB;obtain⟨aA,HB,HI105,cF,eM⟩:=n_;clear hi hb hb2)|((with_reducible refine aAb (f:=34) rfl ?_);refine aBd (some 11) rfl rfl Try.func34 (by kernel_rfl) rfl #[.pointer (some ⟨g105,0,none⟩)] rfl zz3 ?_;(with_reducible refine(aD9.calls k g105 aW bH iO cJ cK gW jX w _ ?side1 ?side2 A3.out).mono ?_);(case side1=>repeat(first|(with_reducible first|exact HI105.out|apply aA5.alloc|apply aA5.drewN|apply aA5.drew|apply aA5.set_1|apply aA5.set_2|refine aA5.far ?_ cF.out _)|exact HI105.out));(case side2=>repeat(first|(with_reducible first|exact HB.out|apply aAz|apply aAj|apply aAs|refine aAh ?_ (aA5.ge HI105.out)|refine aAh ?_ GE101.out)|exact HB.out));rintro e w11 ⟨v108,rfl,ho0,hi,hb,hk⟩;refine⟨_,rfl,?_⟩;have n_:=zA4 (aAu.blk hk (g':=aE) (o:=.cells #[.int .i64 0,.slice none 0 0] 25 (0,0)) zz0 eM.out (by simp)) (Kd.R_lower (Kd.R_newM (M:=fun k_=>(w.heap.size≤k_)) ho0 (aAd aRc) (fun k_ h_=>h_)) (aAd aRc)) hb hi;clear aA HB HI105;obtain⟨aA,dW,HB,HI105⟩:=n_;clear ho0 hi hb hk)|((with_reducible refine aAn (N:=5) rfl ?_);refine aAl ?hg (N:=5) ?hd (cs:=#[.int .i64 0,.slice none 0 0]) (t:=25) ?hr ?_;(case hd=>rfl);(case hg=>rfl);(case hr=>exact aCp);intro cY hg w12 hbox hb;have n_:=aYx (Kd.R_below aO8 hb) (aA3 (g:=aE) (o:=.cells #[.int .i64 0,.slice none 0 0] 25 (0,0)) zz0 hb) (aA5.below (by repeat(first|(with_reducible first|exact HI105.out|apply aA5.alloc|apply aA5.drewN|apply aA5.drew|apply aA5.set_1|apply aA5.set_2|refine aA5.far ?_ cF.out _)|exact HI105.out)) hb) (aA2 aRc hb) hbox (by rw[hg];exact(aAd aRc):w.heap.size≤cY) (by rw[hg];exact(aAd aRc):w.heap.size≤cY) (aP1:aE≠cY) (aP0:cY≠aE) (by rw[hg];exact Nat.ne_of_lt (aA5.lt (show aA5 w _ g105 aW gW jX from by repeat(first|(with_reducible first|exact HI105.out|apply aA5.alloc|apply aA5.drewN|apply aA5.drew|apply aA5.set_1|apply aA5.set_2|refine aA5.far ?_ cF.out _)|exact HI105.out))):g105≠cY) (by rw[hg];exact Nat.ne_of_gt (aA5.lt (show aA5 w _ g105 aW gW jX from by repeat(first|(with_reducible first|exact HI105.out|apply aA5.alloc|apply aA5.drewN|apply aA5.drew|apply aA5.set_1|apply aA5.set_2|refine aA5.far ?_ cF.out _)|exact HI105.out))):cY≠g105);clear dW aA HI105 HB;obtain⟨dW,aA,HI105,HB,cV,GW112,GE112,gT,dX,eS,kZ⟩:=n_;clear hb hbox hg;have qC:=dX.out;have qB:=gT.out;have rY:=kZ.out;have rW:=eS.out;have d8:=aC7 cV;have d7:=aC6 cV;have d4:=aA0 cV.out 0;have d3:=aA0 cV.out 1;obtain⟨Ao16,co16,pT⟩:=Kd.R_slice dW.out;subst pT)|((with_reducible refine aAb (f:=35) rfl ?_);refine aBd (some 14) rfl rfl Try.func35 (by kernel_rfl) rfl #[.agg #[.int .i64 cJ,.slice Ao16 cK.length co16]] rfl zz3 ?_;(with_reducible refine(aB0.calls k cJ _ _ cK lB true _ ?side1 ?side2 A4.out).mono ?_);(case side1=>refine(Kd.R_reads' (e:=57) (base:=w.heap.size) (ok:=fun k_=>((w.heap.size≤k_)∧True)) (n:=cK.length) (c:=co16) ?_).2.2;exact aYp);(case side2=>exact(Kd.R_reads' dW.out).2.1);rintro e w17 ⟨v114,rfl,ho0,hb⟩;refine⟨_,rfl,?_⟩;have n_:=zA6 (Kd.R_below aYp hb) (Kd.N_lower (Kd.N_mono (ok':=fun k_=>(w.heap.size≤k_)∧some k_≠(.slice Ao16 cK.length co16:Value).ownBlock∧k_≠aE∧k_≠cY∧k_≠g105) ho0 (fun k_ hk_=>⟨(Nat.le_trans (aAd aOz) hk_),(Kd.fresh' (Kd.R_lt aYp) k_ hk_),(Kd.freshB (g:=aE) (o:=.cells #[.int .i64 0,.slice none 0 0] 25 (0,0)) aVz k_ hk_),(Kd.freshB (g:=cY) (o:=.cells #[.int .i64 cJ,.slice Ao16 cK.length co16] 25 (0,0)) aYg k_ hk_),(aA5.fresh aYc k_ hk_)⟩)) (aAd aOz)) (aA3 (g:=aE) (o:=.cells #[.int .i64 0,.slice none 0 0] 25 (0,0)) aVz hb) (aA5.below (show aA5 w ((w12.setCell ⟨cY,0,none⟩ (.int .i64 cJ)).setCell ⟨cY,1,none⟩ (.slice Ao16 cK.length co16)) g105 aW gW jX from by repeat(first|(with_reducible first|exact HI105.out|apply aA5.alloc|apply aA5.drewN|apply aA5.drew|apply aA5.set_1|apply aA5.set_2|refine aA5.far ?_ cF.out _|refine aA5.far ?_ eS.out _)|exact HI105.out)) hb) (aA3 (g:=cY) (o:=.cells #[.int .i64 cJ,.slice Ao16 cK.length co16] 25 (0,0)) aYg hb) (aA2 aOz hb);clear dW aA HI105 cV HB;obtain⟨dW,cU,aA,HI105,cV,HB⟩:=n_;clear ho0 hb)));have n_:=zA6 (Kd.R_drew dW.out) (Kd.N_drew cU.out) (aA9 aA.out) (aA9 cV.out) (aA5.drew HI105.out) (aAs HB.out);clear dW cU aA cV HI105 HB;obtain⟨dW,cU,aA,cV,HI105,HB⟩:=n_;obtain⟨Ao19,co19,vV⟩:=Kd.N_slice cU.out;(first|subst vV|(injection vV with f1_ f2_ f3_;have f4_:=f1_.symm;have f5_:=f3_.symm;clear f1_ f2_ f3_;subst f4_;subst f5_));have p120:0≤(jP:Int):=of_decide_eq_true zz4;have q120:jP<(lB.length:Int):=of_decide_eq_true zz4;obtain⟨DI,A120_0,c120_0,e120,pE,nS,hi120_0⟩:=aG4 (Kd.N_reads' cU.out).2.2 jP p120 q120;cases e120;obtain⟨ce120,hce120,hMe120,hcc120⟩:=Kd.N_get cU.out [] jP p120 (by first|exact q120|exact of_decide_eq_true zz4|(have e_:=(Kd.N_reads' cU.out).1;omega));obtain⟨ua120_0,uc120_0,rfl,ul120_0,ge120_0⟩:=Kd.FK_slice_open hMe120;have hv120_0:=hcc120 0 _ rfl;rw[Nat.add_zero,show ((Kd.slice 3 (Kd.int .i64))).sz=1 from rfl,Nat.mul_one]at hv120_0;replace hv120_0:=Option.some.inj (hv120_0.symm.trans pE);injection hv120_0 with hva_ hvn_ hvc_;rw[hva_]at ge120_0;rw[hvc_]at ul120_0;have HL120_0:=zK_ (show Kd.V (Kd.int .i64) 3 _ w.heap.size _ _ (aBp lB jP) from Kd.V_mk ul120_0 ge120_0);clear hva_ hvn_ hvc_ ge120_0 ul120_0;clear hcc120 hce120;have HR120_0:=zK_ hi120_0;have HC120_0:=zK_ nS;clear hi120_0 nS;replace p120:=eq_true p120;replace q120:=eq_true q120;refine aE5 (n:=10) (S:=fun w'=>w'.cell? ⟨cY,0,none⟩=some (.int .i64 cJ)∧w'.cell? ⟨cY,1,none⟩=some (.slice Ao16 cK.length co16)∧w'.cell? (DI.add (jP).toNat)=some (.slice A120_0 (aBp lB jP).length c120_0)) (ds:=[]) (zM 10 0) (by kernel_rfl) rfl rfl ⟨(blk_cell cV.out 0).trans rfl,(blk_cell cV.out 1).trans rfl,pE⟩ (fun hHeld=>?_);refine aDc aC1.tab7 aC1.bits7 (fun HT_ HW_=>?_);generalize w17.drew=w18 at dW cU aA cV HI105 HB HL120_0 HR120_0 pE hHeld ⊢;refine zQ 1 30 (zM 10 2) ?_
  refine zQ 2 31 (zM 10 6) ?_
  refine zQ 3 32 (zM 10 14) ?_
  refine zQ 4 33 (zM 10 30) ?_
  refine take_ (i:=0) (N:=some 29) (v:=?_) (a':=?_) (zM 10 31) rfl rfl (aC0 HT_.out HW_.out (by kernel_rfl)) (fun _ _ _ h=>h) (Or.inl ⟨by rfl,?_⟩) hHeld ?_ ?_;rotate_left
  ·rintro w' ⟨s0,s1,s2⟩;exact zzT
  rotate_left
  ·exact zzS
  refine aFz (i:=5) (N:=some 34) (zM 10 63) rfl rfl (aDo HT_.out (by kernel_rfl)) (by decide) (fun K hK=>?_);refine aF2 Try.func36 (by kernel_rfl) rfl #[.pointer (some ⟨g105,0,none⟩),.int .i64 (lB.length:Int)] (by rfl) rfl rfl zz3 ?_;(with_reducible refine(aBj.calls g105 aW gW jX (lB.length:Int) jP oC o7 w _ ?side1 ?side2 A6.out).mono ?_);(case side1=>repeat(first|(with_reducible first|exact HI105.out|apply aA5.alloc|apply aA5.drewN|apply aA5.drew|apply aA5.set_1|apply aA5.set_2|refine aA5.far ?_ cF.out _|refine aA5.far ?_ eS.out _)|exact HI105.out));(case side2=>repeat(first|(with_reducible first|exact HB.out|apply aAz|apply aAj|apply aAs|refine aAh ?_ (aA5.ge HI105.out)|refine aAh ?_ GE101.out|refine aAh ?_ GE112.out)|exact HB.out));rintro e w20 ⟨rfl,hi,hb,hk⟩;have HS2_:=aL8 hk (hHeld.2.2) (by first|(rw[aDf];exact Kd.own_blk (aA5.own_neN HI105.out cU.out (by decide)))|(show (Addr.add _ _).block≠_;rw[aDf];exact Kd.own_blk (aA5.own_neN HI105.out cU.out (by decide)))|exact Kd.own_blk (aA5.own_neN HI105.out cU.out (by decide)));refine⟨_,rfl,?_⟩;have n0_:=zK_ (aAu.blk hk (g':=aE) (o:=.cells #[.int .i64 0,.slice none 0 0] 25 (0,0)) zz0 eM.out (by simp));have n1_:=zK_ (Kd.R_mono (Kd.R_keep (aA5.apart (show aA5 w _ g105 aW gW jX from by repeat(first|(with_reducible first|exact HI105.out|apply aA5.alloc|apply aA5.drewN|apply aA5.drew|apply aA5.set_1|apply aA5.set_2|refine aA5.far ?_ cF.out _|refine aA5.far ?_ eS.out _)|exact HI105.out)) aO8 (by decide)) hk (fun _ h=>h.2)) (fun _ h=>h.1));have n2_:=zK_ (aAu.blk hk (g':=cY) (o:=.cells #[.int .i64 cJ,.slice Ao16 cK.length co16] 25 (0,0)) (by(with_reducible repeat(first|refine aA8 ?_ _|refine aA9 ?_|refine aA7 ?_ _));exact cV.out) kZ.out (by simp));have n3_:=zK_ (Kd.N_mono (Kd.N_keep (Kd.N_mono (ok:=fun k_=>(((w.heap.size≤k_))∧(some k_≠(.slice Ao16 cK.length co16:Value).ownBlock∧(k_≠aE∧(k_≠cY∧k_≠g105))))) (by(with_reducible repeat(first|apply Kd.N_alloc|apply Kd.N_drewN|apply Kd.N_drew));exact cU.out) (fun k_ hk_=>(⟨hk_,hk_.2.2.2.2⟩:_∧k_≠g105))) hk (fun _ h=>h.2)) (fun _ h=>h.1));have n4_:=zK_ (hb);have n5_:=zK_ (hi);have HL120_0:=zK_ (Kd.V_keep HL120_0.out hk (fun k_ hk_=>by first|exact hk_.1.2.2.2.2|exact hk_.1.2.2.2.2.2.2));clear aA;clear dW;clear cV;clear cU;clear HB;clear HI105;have aA:=n0_;have dW:=n1_;have cV:=n2_;have cU:=n3_;have HB:=n4_;have HI105:=n5_;clear n0_ n1_ n2_ n3_ n4_ n5_;(try clear hb);(try clear hb2);(try clear hk);(try clear hi);refine hK.out _ _ ⟨(blk_cell cV.out 0).trans rfl,(blk_cell cV.out 1).trans rfl,HS2_⟩ (fun hHeld=>?_);clear hK K;refine aDr (a':=?_) ?_ ?_;rotate_left
  ·show Act.put _ (some 34) _=_;exact zzS
  refine zQ 6 35 (zM 10 127) ?_
  refine take_ (i:=7) (N:=some 36) (v:=?_) (a':=?_) (zM 10 255) rfl rfl (aC0 HT_.out HW_.out (by kernel_rfl)) (fun _ _ _ h=>h) (Or.inl ⟨by rfl,?_⟩) hHeld ?_ ?_;rotate_left
  ·rintro w' ⟨s0,s1,s2⟩;exact zzT
  rotate_left
  ·exact zzS
  refine aFz (i:=8) (N:=none) (zM 10 511) rfl rfl (aDo HT_.out (by kernel_rfl)) (by decide) (fun K hK=>?_);have hs21:w20.cell? ⟨aE,0,none⟩=some (.int .i64 0):=(blk_cell aA.out 0).trans rfl;have hfs21:=aA0 aA.out 0;have hns21_1:=dX.out;have hms21_1:=gT.out;have hs22:w20.cell? ⟨aE,1,none⟩=some (.slice none 0 0):=(blk_cell aA.out 1).trans rfl;have hfs22:=aA0 aA.out 1;have hns22_1:=dX.out;have hms22_1:=gT.out;refine aM8 (w1:=?_) (by rfl) rfl ?_ ?_;rotate_left
  ·go_simp;rfl
  refine hK.out _ _ ⟨((cell_far (p:=⟨aE,_,none⟩) dX.out _).trans (((cell_far (p:=⟨aE,_,none⟩) dX.out _).trans (hHeld.1)))),((cell_far (p:=⟨aE,_,none⟩) dX.out _).trans (((cell_far (p:=⟨aE,_,none⟩) dX.out _).trans (hHeld.2.1)))),((cell_far (p:=⟨aE,_,none⟩) aWi _).trans (((cell_far (p:=⟨aE,_,none⟩) aWi _).trans (hHeld.2.2))))⟩ (fun hHeld=>?_);clear hK K;refine zQ 9 3 (zM 10 1023) ?_
  refine aEq (aDy HT_.out (by kernel_rfl)) ?_;(try go_wp2);refine bodyPost_ret (aFc rfl _ _ aE 25 #[.int .i64 cJ,.slice Ao16 cK.length co16] (0,0) _ rfl (by(with_reducible repeat(first|refine aA8 ?_ _|refine aA9 ?_|refine aA7 ?_ _));refine aCd (cs:=#[.int .i64 cJ,.slice none 0 0]) ?_ 1 _ rfl;(with_reducible repeat(first|refine aA8 ?_ _|refine aA9 ?_|refine aA7 ?_ _));refine aCd (cs:=#[.int .i64 0,.slice none 0 0]) ?_ 0 _ rfl;(with_reducible repeat(first|refine aA8 ?_ _|refine aA9 ?_|refine aA7 ?_ _));exact aA.out) Try.underlying25 rfl (by kernel_rfl)) rfl ?_;exact⟨_,_,zz9,by(with_reducible repeat(first|apply Kd.R_alloc|apply Kd.R_drewN|apply Kd.R_drew));exact Kd.R_mono (Kd.R_far (p:=⟨aE,1,none⟩) (Kd.R_far (p:=⟨aE,0,none⟩) (Kd.R_types dW.out aA.out (by decide)) (fun _ hk=>hk.2) (.int .i64 cJ)) (fun _ hk=>hk.2) (.slice Ao16 cK.length co16)) (fun _ hk=>hk.1.1),by(with_reducible repeat(first|apply Kd.V_alloc|apply Kd.V_drewN|apply Kd.V_drew));exact Kd.V_mono (Kd.V_far (p:=⟨aE,1,none⟩) (Kd.V_far (p:=⟨aE,0,none⟩) (Kd.V_mono HL120_0.out (fun k_ hk=>(⟨hk,hk.1.2.2.1⟩:_∧k_≠aE))) (fun _ hk=>hk.2) (.int .i64 cJ)) (fun _ hk=>hk.2) (.slice Ao16 cK.length co16)) (fun _ hk=>⟨hk.1.1.1,hk.1.1.2.1⟩),by repeat(first|(with_reducible first|exact HB.out|apply aAz|apply aAj|apply aAs|refine aAh ?_ (aA5.ge HI105.out)|refine aAh ?_ GE101.out|refine aAh ?_ GE112.out)|exact HB.out)⟩
 replace c5:=Bool.eq_false_iff.mpr c5;subst c5;rw[if_neg (show ¬ (false=true) by decide)]at H;obtain⟨iY,hy_⟩:∃ y_:List (S57),y_=(([(⟨0,1⟩:S57),(⟨0,2⟩:S57),(⟨1,2⟩:S57)]:List (S57))):=⟨_,rfl⟩;(replace H:((aB0.f k 3 iY).bind fun iV=>((aBj.f aW gW jX (iV.1.length:Int)).bind fun l9=>(if 0≤l9.1 then(if l9.1<(iV.1.length:Int) then(some (3,iY,aBp iV.1 l9.1)) else(none)) else(none))))=some (r1,r2,r3):=zzY);have wU:=zK_ hy_;clear hy_;replace H:=zO_ H;obtain⟨⟨fV,jW⟩,A230,H⟩:=H;dsimp only at H;have A23:=zK_ A230;clear A230;replace H:=zO_ H;obtain⟨⟨iA,xA,uU⟩,A240,H⟩:=H;dsimp only at H;have A24:=zK_ A240;clear A240;by_cases c25:0≤iA;rotate_left
 ·rw[if_neg c25]at H;exact absurd H (by simp)
 rw[if_pos c25]at H;have wP:=decide_eq_true c25;clear c25;by_cases c26:iA<(fV.length:Int);rotate_left
 ·rw[if_neg c26]at H;exact absurd H (by simp)
 rw[if_pos c26]at H;have t1:=decide_eq_true c26;(try(have oE:=t1;first|rw[nS]at oE|rw[← nS]at oE));clear c26;simp only[Option.some.injEq,Prod.mk.injEq]at H;obtain⟨rfl,rfl,rfl⟩:=H;go_enter Try.func8,Try.ntmps8;(try go_wp2_with (first|((with_reducible refine aAn (N:=2) rfl ?_);refine aAl ?hg (N:=2) ?hd (cs:=#[.int .i64 0,.slice none 0 0]) (t:=25) ?hr ?_;(case hd=>rfl);(case hg=>rfl);(case hr=>exact aCp);intro aE hg w27 hbox hb;have n_:=zA4 (aA2 zz2 hb) hbox (aDi:w.heap.size≤aE) (aDi:w.heap.size≤aE);clear HB;obtain⟨HB,aA,GW101,GE101⟩:=n_;clear hb hbox hg)|((with_reducible refine aAb (f:=33) rfl ?_);refine aBd (some 9) rfl rfl Try.func33 (by kernel_rfl) rfl #[.slice A0 l0.length c0] rfl zz3 ?_;(with_reducible refine(aBg.calls k _ _ l0 aW bH iO w _ ?side1 ?side2 ?side3 A2.out).mono ?_);(case side1=>repeat(first|(with_reducible first|exact HB.out|apply aAz|apply aAj|apply aAs|refine aAh ?_ GE101.out)|exact HB.out));(case side2=>exact HR0.out);(case side3=>exact HC0.out);rintro e w28 ⟨g105,rfl,hi,hb,hb2⟩;refine⟨_,rfl,?_⟩;have n_:=zA5 (aA3 (g:=aE) (o:=.cells #[.int .i64 0,.slice none 0 0] 25 (0,0)) zz0 hb2) hb hi (aA5.ne_blk hi (aA3 (g:=aE) (o:=.cells #[.int .i64 0,.slice none 0 0] 25 (0,0)) zz0 hb2) (by decide)) (Ne.symm (aA5.ne_blk hi (aA3 (g:=aE) (o:=.cells #[.int .i64 0,.slice none 0 0] 25 (0,0)) zz0 hb2) (by decide)));clear aA HB;obtain⟨aA,HB,HI105,cF,eM⟩:=n_;clear hi hb hb2)|((with_reducible refine aAb (f:=34) rfl ?_);refine aBd (some 11) rfl rfl Try.func34 (by kernel_rfl) rfl #[.pointer (some ⟨g105,0,none⟩)] rfl zz3 ?_;(with_reducible refine(aD9.calls k g105 aW bH iO cJ cK gW jX w _ ?side1 ?side2 A3.out).mono ?_);(case side1=>repeat(first|(with_reducible first|exact HI105.out|apply aA5.alloc|apply aA5.drewN|apply aA5.drew|apply aA5.set_1|apply aA5.set_2|refine aA5.far ?_ cF.out _)|exact HI105.out));(case side2=>repeat(first|(with_reducible first|exact HB.out|apply aAz|apply aAj|apply aAs|refine aAh ?_ (aA5.ge HI105.out)|refine aAh ?_ GE101.out)|exact HB.out));rintro e w29 ⟨v108,rfl,ho0,hi,hb,hk⟩;refine⟨_,rfl,?_⟩;have n_:=zA4 (aAu.blk hk (g':=aE) (o:=.cells #[.int .i64 0,.slice none 0 0] 25 (0,0)) zz0 eM.out (by simp)) (Kd.R_lower (Kd.R_newM (M:=fun k_=>(w.heap.size≤k_)) ho0 (aAd aRc) (fun k_ h_=>h_)) (aAd aRc)) hb hi;clear aA HB HI105;obtain⟨aA,dW,HB,HI105⟩:=n_;clear ho0 hi hb hk)|((with_reducible refine aAn (N:=5) rfl ?_);refine aAl ?hg (N:=5) ?hd (cs:=#[.int .i64 0,.slice none 0 0]) (t:=25) ?hr ?_;(case hd=>rfl);(case hg=>rfl);(case hr=>exact aCp);intro cY hg w30 hbox hb;have n_:=aYx (Kd.R_below aO8 hb) (aA3 (g:=aE) (o:=.cells #[.int .i64 0,.slice none 0 0] 25 (0,0)) zz0 hb) (aA5.below (by repeat(first|(with_reducible first|exact HI105.out|apply aA5.alloc|apply aA5.drewN|apply aA5.drew|apply aA5.set_1|apply aA5.set_2|refine aA5.far ?_ cF.out _)|exact HI105.out)) hb) (aA2 aRc hb) hbox (by rw[hg];exact(aAd aRc):w.heap.size≤cY) (by rw[hg];exact(aAd aRc):w.heap.size≤cY) (aP1:aE≠cY) (aP0:cY≠aE) (by rw[hg];exact Nat.ne_of_lt (aA5.lt (show aA5 w _ g105 aW gW jX from by repeat(first|(with_reducible first|exact HI105.out|apply aA5.alloc|apply aA5.drewN|apply aA5.drew|apply aA5.set_1|apply aA5.set_2|refine aA5.far ?_ cF.out _)|exact HI105.out))):g105≠cY) (by rw[hg];exact Nat.ne_of_gt (aA5.lt (show aA5 w _ g105 aW gW jX from by repeat(first|(with_reducible first|exact HI105.out|apply aA5.alloc|apply aA5.drewN|apply aA5.drew|apply aA5.set_1|apply aA5.set_2|refine aA5.far ?_ cF.out _)|exact HI105.out))):cY≠g105);clear dW aA HI105 HB;obtain⟨dW,aA,HI105,HB,cV,GW112,GE112,gT,dX,eS,kZ⟩:=n_;clear hb hbox hg;have M7:=dX.out;have L3:=gT.out;have yY:=kZ.out;have yI:=eS.out;have sJ:=aC7 cV;have sI:=aC6 cV;have sB:=aA0 cV.out 0;have sA:=aA0 cV.out 1;obtain⟨Ao34,co34,KS⟩:=Kd.R_slice dW.out;subst KS)|((with_reducible refine aAb (f:=35) rfl ?_);refine aBd (some 14) rfl rfl Try.func35 (by kernel_rfl) rfl #[.agg #[.int .i64 cJ,.slice Ao34 cK.length co34]] rfl zz3 ?_;(with_reducible refine(aB0.calls k cJ _ _ cK lB false _ ?side1 ?side2 A4.out).mono ?_);(case side1=>refine(Kd.R_reads' (e:=57) (base:=w.heap.size) (ok:=fun k_=>((w.heap.size≤k_)∧True)) (n:=cK.length) (c:=co34) ?_).2.2;exact aYo);(case side2=>exact(Kd.R_reads' dW.out).2.1);rintro e w35 ⟨v114,rfl,ho0,hb⟩;refine⟨_,rfl,?_⟩;have n_:=zA6 (Kd.R_below aYo hb) (Kd.N_lower (Kd.N_mono (ok':=fun k_=>(w.heap.size≤k_)∧some k_≠(.slice Ao34 cK.length co34:Value).ownBlock∧k_≠aE∧k_≠cY∧k_≠g105) ho0 (fun k_ hk_=>⟨(Nat.le_trans (aAd aOz) hk_),(Kd.fresh' (Kd.R_lt aYo) k_ hk_),(Kd.freshB (g:=aE) (o:=.cells #[.int .i64 0,.slice none 0 0] 25 (0,0)) aVz k_ hk_),(Kd.freshB (g:=cY) (o:=.cells #[.int .i64 cJ,.slice Ao34 cK.length co34] 25 (0,0)) aYg k_ hk_),(aA5.fresh aYc k_ hk_)⟩)) (aAd aOz)) (aA3 (g:=aE) (o:=.cells #[.int .i64 0,.slice none 0 0] 25 (0,0)) aVz hb) (aA5.below (show aA5 w ((w30.setCell ⟨cY,0,none⟩ (.int .i64 cJ)).setCell ⟨cY,1,none⟩ (.slice Ao34 cK.length co34)) g105 aW gW jX from by repeat(first|(with_reducible first|exact HI105.out|apply aA5.alloc|apply aA5.drewN|apply aA5.drew|apply aA5.set_1|apply aA5.set_2|refine aA5.far ?_ cF.out _|refine aA5.far ?_ eS.out _)|exact HI105.out)) hb) (aA3 (g:=cY) (o:=.cells #[.int .i64 cJ,.slice Ao34 cK.length co34] 25 (0,0)) aYg hb) (aA2 aOz hb);clear dW aA HI105 cV HB;obtain⟨dW,cU,aA,HI105,cV,HB⟩:=n_;clear ho0 hb)|((with_reducible refine aAn (N:=22) rfl ?_);refine Kd.R_lit k57 _ 57 ?hg (N:=22) ?hd (xs:=([(⟨0,1⟩:S57),(⟨0,2⟩:S57),(⟨1,2⟩:S57)]:List (S57))) (inner:=[.int .i64 0,.int .i64 1,.int .i64 0,.int .i64 2,.int .i64 1,.int .i64 2]) (ok:=fun _=>True) (okp:=fun _=>True) ?hr ?hp (fun _ hk=>hk) trivial (Below.refl _ _) (Nat.le_refl _) (by simp) ?_;(case hd=>rfl);(case hg=>rfl);(case hr=>exact aCp);(case hp=>exact(aDs.c2 (show Kd.M k57 _ _ _ (⟨0,1⟩:S57) [.int .i64 0,.int .i64 1] from(aEf _ _ _ (⟨0,1⟩:S57))) (aDs.c2 (show Kd.M k57 _ _ _ (⟨0,2⟩:S57) [.int .i64 0,.int .i64 2] from(aEf _ _ _ (⟨0,2⟩:S57))) (aDs.c2 (show Kd.M k57 _ _ _ (⟨1,2⟩:S57) [.int .i64 1,.int .i64 2] from(aEf _ _ _ (⟨1,2⟩:S57))) (aDs.none _ _)))));intro v122 w36 ho37 hb hg_ hnew_;clear hg_ hnew_;(first|rw[← wU.out]at ho37|(simp only[Int.reduceToNat]at ho37;rw[← wU.out]at ho37));have n_:=zA7 (Kd.R_elder' aO8 (Kd.R_base ho37) hb) (Kd.N_elder' (by(with_reducible repeat(first|apply Kd.N_alloc|apply Kd.N_drewN|apply Kd.N_drew));exact cU.out) (Kd.R_base ho37) hb) (Kd.R_lower (Kd.R_new' (Kd.R_newM (M:=fun k_=>(w.heap.size≤k_)) ho37 (aAd aOz) (fun k_ h_=>h_)) (Kd.R_lt aO8)) (aAd aOz)) (aA3 (g:=aE) (o:=.cells #[.int .i64 0,.slice none 0 0] 25 (0,0)) zz0 hb) (aA5.below aYc hb) (aA3 (g:=cY) (o:=.cells #[.int .i64 cJ,.slice Ao34 cK.length co34] 25 (0,0)) (by(with_reducible repeat(first|refine aA8 ?_ _|refine aA9 ?_|refine aA7 ?_ _));exact cV.out) hb) (aA2 aOz hb);clear dW cU aA HI105 cV HB;obtain⟨dW,cU,k5,aA,HI105,cV,HB⟩:=n_;clear hb ho37;obtain⟨Ao38,co38,tY⟩:=Kd.R_slice k5.out;subst tY;have vR:=aC7 cV;have vQ:=aC6 cV;have vG:=aA0 cV.out 0;have vF:=aA0 cV.out 1)|((with_reducible refine aAb (f:=35) rfl ?_);refine aBd (some 26) rfl rfl Try.func35 (by kernel_rfl) rfl #[.agg #[.int .i64 3,.slice Ao38 iY.length co38]] rfl zz3 ?_;(with_reducible refine(aB0.calls k 3 _ _ iY fV jW _ ?side1 ?side2 A23.out).mono ?_);(case side1=>refine(Kd.R_reads' (e:=57) (base:=w.heap.size) (ok:=fun k_=>(((w.heap.size≤k_)∧True)∧some k_≠(.slice Ao34 cK.length co34:Value).ownBlock)) (n:=iY.length) (c:=co38) ?_).2.2;exact aYn);(case side2=>exact(Kd.R_reads' k5.out).2.1);rintro e w40 ⟨v125,rfl,ho0,hb⟩;refine⟨_,rfl,?_⟩;have n_:=zA8 (Kd.R_below aWh hb) (Kd.N_elder' aWk (Kd.N_base ho0) hb) (Kd.R_below aYn hb) (Kd.N_lower (Kd.N_mono (ok':=fun k_=>(w.heap.size≤k_)∧some k_≠(.slice Ao34 cK.length co34:Value).ownBlock∧some k_≠(v114:Value).ownBlock∧some k_≠(.slice Ao38 iY.length co38:Value).ownBlock∧k_≠aE∧k_≠cY∧k_≠g105) ho0 (fun k_ hk_=>⟨(Nat.le_trans (aAd aOz) hk_),(Kd.fresh' (Kd.R_lt aWh) k_ hk_),(Kd.fresh' (Kd.N_lt aWk) k_ hk_),(Kd.fresh' (Kd.R_lt aYn) k_ hk_),(Kd.freshB (g:=aE) (o:=.cells #[.int .i64 0,.slice none 0 0] 25 (0,0)) aVz k_ hk_),(Kd.freshB (g:=cY) (o:=.cells #[.int .i64 3,.slice Ao38 iY.length co38] 25 (0,0)) aWq k_ hk_),(aA5.fresh aYc k_ hk_)⟩)) (aAd aOz)) (aA3 (g:=aE) (o:=.cells #[.int .i64 0,.slice none 0 0] 25 (0,0)) aVz hb) (aA5.below (show aA5 w ((w36.setCell ⟨cY,0,none⟩ (.int .i64 3)).setCell ⟨cY,1,none⟩ (.slice Ao38 iY.length co38)) g105 aW gW jX from by repeat(first|(with_reducible first|exact HI105.out|apply aA5.alloc|apply aA5.drewN|apply aA5.drew|apply aA5.set_1|apply aA5.set_2|refine aA5.far ?_ cF.out _|refine aA5.far ?_ eS.out _)|exact HI105.out)) hb) (aA3 (g:=cY) (o:=.cells #[.int .i64 3,.slice Ao38 iY.length co38] 25 (0,0)) aWq hb) (aA2 aOz hb);clear dW cU k5 aA HI105 cV HB;obtain⟨dW,cU,k5,iL,aA,HI105,cV,HB⟩:=n_;clear ho0 hb)));have n_:=zA8 (Kd.R_drew dW.out) (Kd.N_drew cU.out) (Kd.R_drew k5.out) (Kd.N_drew iL.out) (aA9 aA.out) (aA9 cV.out) (aA5.drew HI105.out) (aAs HB.out);clear dW cU k5 iL aA cV HI105 HB;obtain⟨dW,cU,k5,iL,aA,cV,HI105,HB⟩:=n_;obtain⟨Ao42,co42,qM⟩:=Kd.N_slice iL.out;(first|subst qM|(injection qM with f1_ f2_ f3_;have f4_:=f1_.symm;have f5_:=f3_.symm;clear f1_ f2_ f3_;subst f4_;subst f5_));have p131:0≤(iA:Int):=of_decide_eq_true zz4;have q131:iA<(fV.length:Int):=of_decide_eq_true zz4;obtain⟨wT,A131_0,c131_0,e131,pC,rZ,hi131_0⟩:=aG4 (Kd.N_reads' iL.out).2.2 iA p131 q131;cases e131;obtain⟨ce131,hce131,hMe131,hcc131⟩:=Kd.N_get iL.out [] iA p131 (by first|exact q131|exact of_decide_eq_true zz4|(have e_:=(Kd.N_reads' iL.out).1;omega));obtain⟨ua131_0,uc131_0,rfl,ul131_0,ge131_0⟩:=Kd.FK_slice_open hMe131;have hv131_0:=hcc131 0 _ rfl;rw[Nat.add_zero,show ((Kd.slice 3 (Kd.int .i64))).sz=1 from rfl,Nat.mul_one]at hv131_0;replace hv131_0:=Option.some.inj (hv131_0.symm.trans pC);injection hv131_0 with hva_ hvn_ hvc_;rw[hva_]at ge131_0;rw[hvc_]at ul131_0;have HL131_0:=zK_ (show Kd.V (Kd.int .i64) 3 _ w.heap.size _ _ (aBp fV iA) from Kd.V_mk ul131_0 ge131_0);clear hva_ hvn_ hvc_ ge131_0 ul131_0;clear hcc131 hce131;have HR131_0:=zK_ hi131_0;have HC131_0:=zK_ rZ;clear hi131_0 rZ;replace p131:=eq_true p131;replace q131:=eq_true q131;refine aE5 (n:=10) (S:=fun w'=>w'.cell? ⟨cY,0,none⟩=some (.int .i64 3)∧w'.cell? ⟨cY,1,none⟩=some (.slice Ao38 iY.length co38)∧w'.cell? (wT.add (iA).toNat)=some (.slice A131_0 (aBp fV iA).length c131_0)) (ds:=[]) (zM 10 0) (by kernel_rfl) rfl rfl ⟨(blk_cell cV.out 0).trans rfl,(blk_cell cV.out 1).trans rfl,pC⟩ (fun hHeld=>?_);refine aDc aC1.tab7 aC1.bits7 (fun HT_ HW_=>?_);generalize w40.drew=w41 at dW cU k5 iL aA cV HI105 HB HL131_0 HR131_0 pC hHeld ⊢;refine zQ 1 30 (zM 10 2) ?_
 refine zQ 2 31 (zM 10 6) ?_
 refine zQ 3 32 (zM 10 14) ?_
 refine zQ 4 33 (zM 10 30) ?_
 refine take_ (i:=0) (N:=some 29) (v:=?_) (a':=?_) (zM 10 31) rfl rfl (aC0 HT_.out HW_.out (by kernel_rfl)) (fun _ _ _ h=>h) (Or.inl ⟨by rfl,?_⟩) hHeld ?_ ?_;rotate_left
 ·rintro w' ⟨s0,s1,s2⟩;exact zzT
 rotate_left
 ·exact zzS
 refine aFz (i:=5) (N:=some 34) (zM 10 63) rfl rfl (aDo HT_.out (by kernel_rfl)) (by decide) (fun K hK=>?_);refine aF2 Try.func36 (by kernel_rfl) rfl #[.pointer (some ⟨g105,0,none⟩),.int .i64 (fV.length:Int)] (by rfl) rfl rfl zz3 ?_;(with_reducible refine(aBj.calls g105 aW gW jX (fV.length:Int) iA xA uU w _ ?side1 ?side2 A24.out).mono ?_);(case side1=>repeat(first|(with_reducible first|exact HI105.out|apply aA5.alloc|apply aA5.drewN|apply aA5.drew|apply aA5.set_1|apply aA5.set_2|refine aA5.far ?_ cF.out _|refine aA5.far ?_ eS.out _)|exact HI105.out));(case side2=>repeat(first|(with_reducible first|exact HB.out|apply aAz|apply aAj|apply aAs|refine aAh ?_ (aA5.ge HI105.out)|refine aAh ?_ GE101.out|refine aAh ?_ GE112.out)|exact HB.out));rintro e w43 ⟨rfl,hi,hb,hk⟩;have HS2_:=aL8 hk (hHeld.2.2) (by first|(rw[aDf];exact Kd.own_blk (aA5.own_neN HI105.out iL.out (by decide)))|(show (Addr.add _ _).block≠_;rw[aDf];exact Kd.own_blk (aA5.own_neN HI105.out iL.out (by decide)))|exact Kd.own_blk (aA5.own_neN HI105.out iL.out (by decide)));refine⟨_,rfl,?_⟩;have n0_:=zK_ (aAu.blk hk (g':=aE) (o:=.cells #[.int .i64 0,.slice none 0 0] 25 (0,0)) zz0 eM.out (by simp));have n1_:=zK_ (Kd.R_mono (Kd.R_keep (aA5.apart (show aA5 w _ g105 aW gW jX from by repeat(first|(with_reducible first|exact HI105.out|apply aA5.alloc|apply aA5.drewN|apply aA5.drew|apply aA5.set_1|apply aA5.set_2|refine aA5.far ?_ cF.out _|refine aA5.far ?_ eS.out _)|exact HI105.out)) aO8 (by decide)) hk (fun _ h=>h.2)) (fun _ h=>h.1));have n2_:=zK_ (aAu.blk hk (g':=cY) (o:=.cells #[.int .i64 3,.slice Ao38 iY.length co38] 25 (0,0)) (by(with_reducible repeat(first|refine aA8 ?_ _|refine aA9 ?_|refine aA7 ?_ _));exact cV.out) kZ.out (by simp));have n3_:=zK_ (Kd.N_mono (Kd.N_keep (Kd.N_mono (ok:=fun k_=>(((((w.heap.size≤k_))∧(some k_≠(.slice Ao34 cK.length co34:Value).ownBlock∧(k_≠aE∧(k_≠cY∧k_≠g105))))∧some k_≠(.slice Ao38 iY.length co38:Value).ownBlock)∧some k_≠(.slice (some wT) fV.length co42:Value).ownBlock)) (by(with_reducible repeat(first|apply Kd.N_alloc|apply Kd.N_drewN|apply Kd.N_drew));exact cU.out) (fun k_ hk_=>(⟨hk_,hk_.1.1.2.2.2.2⟩:_∧k_≠g105))) hk (fun _ h=>h.2)) (fun _ h=>h.1));have n4_:=zK_ (Kd.R_mono (Kd.R_keep (aA5.apart (show aA5 w _ g105 aW gW jX from by repeat(first|(with_reducible first|exact HI105.out|apply aA5.alloc|apply aA5.drewN|apply aA5.drew|apply aA5.set_1|apply aA5.set_2|refine aA5.far ?_ cF.out _|refine aA5.far ?_ eS.out _)|exact HI105.out)) (by(with_reducible repeat(first|apply Kd.R_alloc|apply Kd.R_drewN|apply Kd.R_drew));exact k5.out) (by decide)) hk (fun _ h=>h.2)) (fun _ h=>h.1));have n5_:=zK_ (Kd.N_mono (Kd.N_keep (Kd.N_mono (ok:=fun k_=>(((w.heap.size≤k_))∧(some k_≠(.slice Ao34 cK.length co34:Value).ownBlock∧(some k_≠(v114:Value).ownBlock∧(some k_≠(.slice Ao38 iY.length co38:Value).ownBlock∧(k_≠aE∧(k_≠cY∧k_≠g105))))))) (by(with_reducible repeat(first|apply Kd.N_alloc|apply Kd.N_drewN|apply Kd.N_drew));exact iL.out) (fun k_ hk_=>(⟨hk_,hk_.2.2.2.2.2.2⟩:_∧k_≠g105))) hk (fun _ h=>h.2)) (fun _ h=>h.1));have n6_:=zK_ (hb);have n7_:=zK_ (hi);have HL131_0:=zK_ (Kd.V_keep HL131_0.out hk (fun k_ hk_=>by first|exact hk_.1.2.2.2.2|exact hk_.1.2.2.2.2.2.2));clear aA;clear dW;clear cV;clear cU;clear k5;clear iL;clear HB;clear HI105;have aA:=n0_;have dW:=n1_;have cV:=n2_;have cU:=n3_;have k5:=n4_;have iL:=n5_;have HB:=n6_;have HI105:=n7_;clear n0_ n1_ n2_ n3_ n4_ n5_ n6_ n7_;(try clear hb);(try clear hb2);(try clear hk);(try clear hi);refine hK.out _ _ ⟨(blk_cell cV.out 0).trans rfl,(blk_cell cV.out 1).trans rfl,HS2_⟩ (fun hHeld=>?_);clear hK K;refine aDr (a':=?_) ?_ ?_;rotate_left
 ·show Act.put _ (some 34) _=_;exact zzS
 refine zQ 6 35 (zM 10 127) ?_
 refine take_ (i:=7) (N:=some 36) (v:=?_) (a':=?_) (zM 10 255) rfl rfl (aC0 HT_.out HW_.out (by kernel_rfl)) (fun _ _ _ h=>h) (Or.inl ⟨by rfl,?_⟩) hHeld ?_ ?_;rotate_left
 ·rintro w' ⟨s0,s1,s2⟩;exact zzT
 rotate_left
 ·exact zzS
 refine aFz (i:=8) (N:=none) (zM 10 511) rfl rfl (aDo HT_.out (by kernel_rfl)) (by decide) (fun K hK=>?_);have hs44:w43.cell? ⟨aE,0,none⟩=some (.int .i64 0):=(blk_cell aA.out 0).trans rfl;have hfs44:=aA0 aA.out 0;have hns44_1:=dX.out;have hms44_1:=gT.out;have hs45:w43.cell? ⟨aE,1,none⟩=some (.slice none 0 0):=(blk_cell aA.out 1).trans rfl;have hfs45:=aA0 aA.out 1;have hns45_1:=dX.out;have hms45_1:=gT.out;refine aM8 (w1:=?_) (by rfl) rfl ?_ ?_;rotate_left
 ·go_simp;rfl
 refine hK.out _ _ ⟨((cell_far (p:=⟨aE,_,none⟩) dX.out _).trans (((cell_far (p:=⟨aE,_,none⟩) dX.out _).trans (hHeld.1)))),((cell_far (p:=⟨aE,_,none⟩) dX.out _).trans (((cell_far (p:=⟨aE,_,none⟩) dX.out _).trans (hHeld.2.1)))),((cell_far (p:=⟨aE,_,none⟩) aWl _).trans (((cell_far (p:=⟨aE,_,none⟩) aWl _).trans (hHeld.2.2))))⟩ (fun hHeld=>?_);clear hK K;refine zQ 9 3 (zM 10 1023) ?_
 refine aEq (aDy HT_.out (by kernel_rfl)) ?_;(try go_wp2);refine bodyPost_ret (aFc rfl _ _ aE 25 #[.int .i64 3,.slice Ao38 iY.length co38] (0,0) _ rfl (by(with_reducible repeat(first|refine aA8 ?_ _|refine aA9 ?_|refine aA7 ?_ _));refine aCd (cs:=#[.int .i64 3,.slice none 0 0]) ?_ 1 _ rfl;(with_reducible repeat(first|refine aA8 ?_ _|refine aA9 ?_|refine aA7 ?_ _));refine aCd (cs:=#[.int .i64 0,.slice none 0 0]) ?_ 0 _ rfl;(with_reducible repeat(first|refine aA8 ?_ _|refine aA9 ?_|refine aA7 ?_ _));exact aA.out) Try.underlying25 rfl (by kernel_rfl)) rfl ?_;exact⟨_,_,zz9,by(with_reducible repeat(first|apply Kd.R_alloc|apply Kd.R_drewN|apply Kd.R_drew));exact Kd.R_mono (Kd.R_far (p:=⟨aE,1,none⟩) (Kd.R_far (p:=⟨aE,0,none⟩) (Kd.R_types k5.out aA.out (by decide)) (fun _ hk=>hk.2) (.int .i64 3)) (fun _ hk=>hk.2) (.slice Ao38 iY.length co38)) (fun _ hk=>hk.1.1.1),by(with_reducible repeat(first|apply Kd.V_alloc|apply Kd.V_drewN|apply Kd.V_drew));exact Kd.V_mono (Kd.V_far (p:=⟨aE,1,none⟩) (Kd.V_far (p:=⟨aE,0,none⟩) (Kd.V_mono HL131_0.out (fun k_ hk=>(⟨hk,hk.1.2.2.2.2.1⟩:_∧k_≠aE))) (fun _ hk=>hk.2) (.int .i64 3)) (fun _ hk=>hk.2) (.slice Ao38 iY.length co38)) (fun _ hk=>⟨hk.1.1.1,hk.1.1.2.2.2.1⟩),by repeat(first|(with_reducible first|exact HB.out|apply aAz|apply aAj|apply aAs|refine aAh ?_ (aA5.ge HI105.out)|refine aAh ?_ GE101.out|refine aAh ?_ GE112.out)|exact HB.out)⟩
def aBr.l0:Nat→Int→Int→List Int→Int→Int→Option (List Int×Int×Int)
 | 0,_,_,_,_,_=>none
 | k+1,x1,x6,o6,rT,rS=>if x6<x1 then((aBy.f o6 rT rS).bind fun mT=>(aBr.l0 k x1 (wrap64 (x6+1)) o6 mT.2.1 mT.2.2)) else(some (o6,rT,rS))
def aBr.f (k:Nat) (l0:List Int) (a1:Int):Option (List Int×Int×Int):=(aBg.f k l0).bind fun cD=>(aBr.l0 k a1 0 cD.1 cD.2.1 cD.2.2)
theorem aBr.mono_l:∀ k,(∀ y0 y1 y2 y3 y4,LeO (aBr.l0 k y0 y1 y2 y3 y4) (aBr.l0 (k+1) y0 y1 y2 y3 y4))
 | 0=>fun _ _ _ _ _ r h=>by simp[aBr.l0]at h
 | k+1=>by
  have ih0:=aBr.mono_l k
  ·intro y0 y1 y2 y3 y4
   unfold aBr.l0
   exact aZd
theorem aBr.mono:∀ a0 a1 k,LeO (aBr.f k a0 a1) (aBr.f (k+1) a0 a1):=by
 intro a0 a1 k;have ih0:=aBr.mono_l k;unfold aBr.f;exact aZd
theorem aBr.keep_ {w0 w W W7:World} {g:Nat} (h0:Below w0.heap.size w0 W) (h:Below w.heap.size w W) (h7:Below w0.heap.size w0 W7) (hk:aAu W W7 g none) (hg:w.heap.size≤g):Below w.heap.size w W7 :=
 ⟨h7.os.trans (h0.os.symm.trans h.os),h7.tape.trans (h0.tape.symm.trans h.tape),h7.output.trans (h0.output.symm.trans h.output),Nat.le_trans h.size hk.1,fun i hi=>(hk.2 i (Nat.lt_of_lt_of_le hi h.size) (by omega) (by simp)).trans (h.block i hi)⟩
theorem aBr.calls (k:Nat) (A0:Option Addr) (c0:Nat) (l0:List Int) (a1:Int) (r1:List Int) (r2:Int) (r3:Int) (w0 w:World) (hB:Below w0.heap.size w0 w) (hr0:Kd.C (Kd.int .u8) w0 A0 l0.length l0) (hc0:l0.length≤c0) (h:aBr.f k l0 a1=some (r1,r2,r3)) :
  Calls Try.prog 37 #[.slice A0 l0.length c0,.int .i64 a1] w fun e w'=>∃ g_:Nat,e = .returned (.pointer (some ⟨g_,0,none⟩))∧aA5 w0 w' g_ r1 r2 r3∧Below w0.heap.size w0 w'∧Below w.heap.size w w':=by
 have HR0:=zK_ hr0;have HC0:=zK_ hc0;clear hr0 hc0;have HBW:=zK_ (Below.refl w.heap.size w);have HW0:=zK_ hB.size;have HB:=zK_ hB;clear hB;have H:((aBg.f k l0).bind fun cD=>(aBr.l0 k a1 0 cD.1 cD.2.1 cD.2.2))=some (r1,r2,r3):=h;clear h;replace H:=zO_ H;obtain⟨⟨bY,aW,bH⟩,A30,H⟩:=H;dsimp only at H;have A3:=zK_ A30;clear A30;have H':=zK_ H;clear H;go_enter Try.func37,Try.ntmps37;(go_wp2_with (first|((with_reducible refine aAb (f:=33) rfl ?_);refine aBd (some 8) rfl rfl Try.func33 (by kernel_rfl) rfl #[.slice A0 l0.length c0] rfl zz3 ?_;(with_reducible refine(aBg.calls2 k _ _ l0 bY aW bH w0 _ ?side1 ?side2 ?side3 A3.out).mono ?_);(case side1=>repeat(first|(with_reducible first|exact HB.out|apply aAz|apply aAj|apply aAs)|exact HB.out));(case side2=>exact HR0.out);(case side3=>exact HC0.out);rintro e w4 ⟨g104,rfl,hi,hb,hb2,gw_⟩;refine⟨_,rfl,?_⟩;have n0_:=zK_ (hb);have n1_:=zK_ (hi);have n2_:=zK_ (aA2 aVm hb2);have n3_:=zK_ (Nat.le_trans (aAd aVm) gw_:w.heap.size≤g104);clear gw_;clear HBW;have HBW:=n2_;have GWg:=n3_;clear n2_ n3_;clear HB;have HB:=n0_;have HI104:=n1_;clear n0_ n1_;clear hi hb hb2)));(go_loopg [6] k (fun kq v6 w'=>∃ (lY:Int) (mF:Int) (mE:Int),v6 = .int .i64 lY∧Aside0 (aBr.l0 kq a1 lY bY mF mE=some (r1,r2,r3))∧Aside0 (kq≤k)∧Aside0 (aA5 w0 w' g104 bY mF mE)∧Aside0 (Below w0.heap.size w0 w')∧Aside0 (Below w.heap.size w w')));case atStart=>exact⟨(0),(aW),(bH),zz6,H',⟨Nat.le_refl _⟩,⟨aO6⟩,⟨aLy⟩,⟨aTj⟩⟩
 case round =>
  clear H';(try clear p2);(try clear c3);obtain⟨lY,mF,mE,rfl,HA,HK1,HI104,HB,HBW⟩:=hrel
  cases gk with
  | zero=>exact absurd HA.out (by simp[aBr.l0])
  | succ k1 =>
   have H:=HA.out;clear HA;simp only[aBr.l0]at H;by_cases c5:lY<a1;rotate_left
   ·rw[if_neg c5]at H;have f7:=decide_eq_false c5;clear c5;simp only[Option.some.injEq,Prod.mk.injEq]at H;obtain⟨rfl,rfl,rfl⟩:=H;go_wp2;go_ret;exact⟨_,rfl,aO6,aLy,aTj⟩
   rw[if_pos c5]at H;have f7:=decide_eq_true c5;clear c5;replace H:=zO_ H;obtain⟨⟨dT,cJ,cK⟩,A60,H⟩:=H;dsimp only at H;have A6:=zK_ A60;clear A60;have H':=zK_ H;clear H;(go_wp2_with (first|((with_reducible refine aAb (f:=38) rfl ?_);refine aBd (some 15) rfl rfl Try.func38 (by kernel_rfl) rfl #[.pointer (some ⟨g104,0,none⟩)] rfl zz3 ?_;(with_reducible refine(aBy.calls g104 bY mF mE dT cJ cK w0 _ ?side1 ?side2 A6.out).mono ?_);(case side1=>exact aO6);(case side2=>exact aLy);rintro e w7 ⟨rfl,hi,hb,hk⟩;refine⟨_,rfl,?_⟩;have n0_:=zK_ (hb);have n1_:=zK_ (hi);have n2_:=zK_ (aBr.keep_ (by repeat(first|(with_reducible first|exact HB.out|apply aAz|apply aAj|apply aAs|refine aAh ?_ (aA5.ge HI104.out))|exact HB.out)) (by repeat(first|(with_reducible first|exact HBW.out|apply aAz|apply aAj|apply aAs|refine aAh ?_ GWg.out)|exact HBW.out)) hb hk GWg.out);clear HBW;have HBW:=n2_;clear n2_;clear HB;clear HI104;have HB:=n0_;have HI104:=n1_;clear n0_ n1_;clear hi hb hk)));go_roundg k1;(case measure=>have:=HK1.out;omega);case rel=>exact⟨(wrap64 (lY+1)),(cJ),(cK),zz6,H',⟨aG6⟩,⟨aO6⟩,⟨aLy⟩,⟨aTj⟩⟩
def aD5.f (k:Nat) (l0:List Int) (a1:Int):Option (Int):=(aBr.f k l0 a1).bind fun cD=>((aBy.f cD.1 cD.2.1 cD.2.2).bind fun mT=>((aBy.f cD.1 mT.2.1 mT.2.2).bind fun uB=>(some (wrap64 ((wrap64 (mT.1*256))+uB.1)))))
theorem aD5.mono:∀ a0 a1 k,LeO (aD5.f k a0 a1) (aD5.f (k+1) a0 a1):=by
 intro a0 a1 k;unfold aD5.f;repeat' first|(with_reducible apply aBr.mono)|(with_reducible exact LeO.refl _)|(with_reducible exact LeO.none _)|(with_reducible refine LeO.ite ?_ ?_)|(with_reducible refine LeO.bind ?_ (fun _=>?_))|apply aBr.mono|exact LeO.none _|refine LeO.ite ?_ ?_|refine LeO.bind ?_ (fun _=>?_)
theorem aD5.calls (k:Nat) (A0:Option Addr) (c0:Nat) (l0:List Int) (a1:Int) (r:Int) (w:World) (hr0:Kd.C (Kd.int .u8) w A0 l0.length l0) (hc0:l0.length≤c0) (h:aD5.f k l0 a1=some r) :
  Calls Try.prog 9 #[.slice A0 l0.length c0,.int .i64 a1] w fun e w'=>e = .returned (.int .i64 r)∧Below w.heap.size w w':=by
 have HR0:=zK_ hr0;have HC0:=zK_ hc0;clear hr0 hc0;have HB:=zK_ (Below.refl w.heap.size w);have H:((aBr.f k l0 a1).bind fun cD=>((aBy.f cD.1 cD.2.1 cD.2.2).bind fun mT=>((aBy.f cD.1 mT.2.1 mT.2.2).bind fun uB=>(some (wrap64 ((wrap64 (mT.1*256))+uB.1))))))=some r:=h;clear h;replace H:=zO_ H;obtain⟨⟨bY,aW,bH⟩,A30,H⟩:=H;dsimp only at H;have A3:=zK_ A30;clear A30;replace H:=zO_ H;obtain⟨⟨dT,cJ,cK⟩,A40,H⟩:=H;dsimp only at H;have A4:=zK_ A40;clear A40;replace H:=zO_ H;obtain⟨⟨f5,fJ,gW⟩,A50,H⟩:=H;dsimp only at H;have A5:=zK_ A50;clear A50;obtain rfl:=Option.some.inj H;go_enter Try.func9,Try.ntmps9;(go_wp2_with (first|((with_reducible refine aAb (f:=37) rfl ?_);refine aBd (some 8) rfl rfl Try.func37 (by kernel_rfl) rfl #[.slice A0 l0.length c0,.int .i64 a1] rfl zz3 ?_;(with_reducible refine(aBr.calls k _ _ l0 a1 bY aW bH w _ ?side1 ?side2 ?side3 A3.out).mono ?_);(case side1=>repeat(first|(with_reducible first|exact HB.out|apply aAz|apply aAj|apply aAs)|exact HB.out));(case side2=>exact HR0.out);(case side3=>exact HC0.out);rintro e w6 ⟨g104,rfl,hi,hb,hb2⟩;refine⟨_,rfl,?_⟩;have n_:=zA2 hb hi;clear HB;obtain⟨HB,HI104⟩:=n_;clear hi hb hb2)|((with_reducible refine aAb (f:=38) rfl ?_);refine aBd (some 10) rfl rfl Try.func38 (by kernel_rfl) rfl #[.pointer (some ⟨g104,0,none⟩)] rfl zz3 ?_;(with_reducible refine(aBy.calls g104 bY aW bH dT cJ cK w _ ?side1 ?side2 A4.out).mono ?_);(case side1=>exact aO6);(case side2=>exact aLy);rintro e w7 ⟨rfl,hi,hb,hk⟩;refine⟨_,rfl,?_⟩;have n_:=zA2 hb hi;clear HB HI104;obtain⟨HB,HI104⟩:=n_;clear hi hb hk)|((with_reducible refine aAb (f:=38) rfl ?_);refine aBd (some 13) rfl rfl Try.func38 (by kernel_rfl) rfl #[.pointer (some ⟨g104,0,none⟩)] rfl zz3 ?_;(with_reducible refine(aBy.calls g104 bY cJ cK f5 fJ gW w _ ?side1 ?side2 A5.out).mono ?_);(case side1=>exact aO6);(case side2=>exact aLy);rintro e w8 ⟨rfl,hi,hb,hk⟩;refine⟨_,rfl,?_⟩;have n_:=zA2 hb hi;clear HB HI104;obtain⟨HB,HI104⟩:=n_;clear hi hb hk)));go_ret;exact⟨zz9,aLy⟩
mutual
def aAt.l0:Nat→Int→List (S57)→Int→Int→Int→Option (Bool)
 | 0,_,_,_,_,_=>none
 | k+1,x0,x1,x5,x8,x9=>if x9<x8 then(aAt.l1 k x0 x1 x5 x8 x9 x1 (x1.length:Int) 0) else(if 0≤x0 then(some (x5==(wrap64 ((shl .i64 1 x0)-1)))) else(none))
def aAt.l1:Nat→Int→List (S57)→Int→Int→Int→List (S57)→Int→Int→Option (Bool)
 | 0,_,_,_,_,_,_,_,_=>none
 | k+1,x0,x1,x5,x8,x9,f4,mP,lS=>if lS<mP then(if 0≤lS then(if lS<(f4.length:Int) then(if 0≤((aA4 f4 lS).f0) then(if(Go.bits .and .i64 (shr .i64 x5 ((aA4 f4 lS).f0)) 1)=1 then(if 0≤((aA4 f4 lS).f1) then(aAt.l1 k x0 x1 (Go.bits .or .i64 x5 (Go.bits .or .i64 (shl .i64 1 ((aA4 f4 lS).f0)) (shl .i64 1 ((aA4 f4 lS).f1)))) x8 x9 f4 mP (wrap64 (lS+1))) else(none)) else(if 0≤((aA4 f4 lS).f1) then(if(Go.bits .and .i64 (shr .i64 x5 ((aA4 f4 lS).f1)) 1)=1 then(aAt.l1 k x0 x1 (Go.bits .or .i64 x5 (Go.bits .or .i64 (shl .i64 1 ((aA4 f4 lS).f0)) (shl .i64 1 ((aA4 f4 lS).f1)))) x8 x9 f4 mP (wrap64 (lS+1))) else(aAt.l1 k x0 x1 x5 x8 x9 f4 mP (wrap64 (lS+1)))) else(none))) else(none)) else(none)) else(none)) else(aAt.l0 k x0 x1 x5 x8 (wrap64 (x9+1)))
end
def aAt.f (k:Nat) (a0:Int) (l1:List (S57)):Option (Bool):=aAt.l0 k a0 l1 1 a0 0
theorem aAt.mono_l:∀ k,(∀ y0 y1 y2 y3 y4,LeO (aAt.l0 k y0 y1 y2 y3 y4) (aAt.l0 (k+1) y0 y1 y2 y3 y4))∧(∀ y0 y1 y2 y3 y4 y5 y6 y7,LeO (aAt.l1 k y0 y1 y2 y3 y4 y5 y6 y7) (aAt.l1 (k+1) y0 y1 y2 y3 y4 y5 y6 y7))
 | 0=>⟨fun _ _ _ _ _ r h=>by simp[aAt.l0]at h,fun _ _ _ _ _ _ _ _ r h=>by simp[aAt.l1]at h⟩
 | k+1=>by
  obtain⟨ih0,ih1⟩:=aAt.mono_l k
  refine⟨?_,?_⟩
  ·intro y0 y1 y2 y3 y4
   unfold aAt.l0
   exact zm1
  ·intro y0 y1 y2 y3 y4 y5 y6 y7
   unfold aAt.l1
   exact zm1
theorem aAt.mono:∀ a0 a1 k,LeO (aAt.f k a0 a1) (aAt.f (k+1) a0 a1):=by
 intro a0 a1 k;obtain⟨ih0,ih1⟩:=aAt.mono_l k;unfold aAt.f;exact zm1
theorem aAt.calls (k:Nat) (a0:Int) (A1:Option Addr) (c1:Nat) (l1:List (S57)) (r:Bool) (w:World) (hr1:Kd.C k57 w A1 l1.length l1) (hc1:l1.length≤c1) (h:aAt.f k a0 l1=some r) :
  Calls Try.prog 52 #[.int .i64 a0,.slice A1 l1.length c1] w fun e w'=>e = .returned (.bool r)∧Below w.heap.size w w':=by
 have hu57:=Try.underlying57;have HR1:=zK_ hr1;have HC1:=zK_ hc1;clear hr1 hc1;have HB:=zK_ (Below.refl w.heap.size w);have H:(aAt.l0 k a0 l1 1 a0 0)=some r:=h;clear h;have H':=zK_ H;clear H;go_enter Try.func52,Try.ntmps52;go_wp2;(repeat(go_quiet (fail);try go_wp2));(go_loopg [5,9] k (fun kq v5 v9 w'=>∃ (k8:Int) (dR:Int),v5 = .int .i64 k8∧v9 = .int .i64 dR∧Aside0 (aAt.l0 kq a0 l1 k8 a0 dR=some r)∧Aside0 (kq≤k)∧Aside0 (Below w.heap.size w w')));case atStart=>exact⟨(1),(0),zz6,zz6,H',⟨Nat.le_refl _⟩,⟨zz2⟩⟩
 case round =>
  clear H';(try clear c1);(try clear p2);obtain⟨k8,dR,rfl,rfl,HA,HK1,HB⟩:=hrel
  cases gk with
  | zero=>exact absurd HA.out (by simp[aAt.l0])
  | succ k1 =>
   have H:=HA.out;clear HA;simp only[aAt.l0]at H;by_cases c3:dR<a0;rotate_left
   ·rw[if_neg c3]at H;have iQ:=decide_eq_false c3;clear c3;by_cases c27:0≤a0;rotate_left
    ·rw[if_neg c27]at H;exact absurd H (by simp)
    rw[if_pos c27]at H;have DD:=eq_true c27;have N1:decide (0≤a0)=true:=decide_eq_true c27;clear c27;obtain⟨rC,qH⟩:∃ j_:Int,(shl .i64 1 a0)=j_:=⟨_,rfl⟩;(replace H:(some (k8==(wrap64 ((rC)-1))))=some r:=by first|(rw[qH]at H;exact H)|(simp only[qH]at H ⊢;exact H));have tL:(IntKind.i64.wrap (1*2^min a0.toNat 64))=rC:=qH;have tK:a0≤64→(IntKind.i64.wrap (1*2^a0.toNat))=rC:=aEy qH;(have JG:(IntKind.i64.wrap (2^min a0.toNat 64))=rC:=by have h_:=tL;rw[Int.one_mul]at h_;exact h_);(have JF:a0≤64→(IntKind.i64.wrap (2^a0.toNat))=rC:=fun hle_=>by have h_:=tK hle_;rw[Int.one_mul]at h_;exact h_);have JD:(wrap64 (1*2^min a0.toNat 64))=rC:=(aE7 _).symm.trans tL;(have JE:a0≤64→(wrap64 (1*2^a0.toNat))=rC:=fun h_=>(aE7 _).symm.trans (tK h_));obtain rfl:=Option.some.inj H;go_wp2;(repeat(go_quiet (fail);try go_wp2));go_ret;exact⟨by first|rfl|(simp[aCm,aCl]<;>rfl)|(simp only[← qH];first|rfl|(simp[aCm,aCl]<;>rfl))|(simp[*,aCm,aCl]<;>rfl),zz2⟩
   rw[if_pos c3]at H;have iQ:=decide_eq_true c3;clear c3;have H':=zK_ H;clear H;go_wp2;(repeat(go_quiet (fail);try go_wp2));(go_loopg [5,13] k1 (fun kq v5 v13 w'=>∃ (cE:Int) (bM:Int),v5 = .int .i64 cE∧v13 = .int .i64 bM∧Aside0 (aAt.l1 kq a0 l1 cE a0 dR l1 (l1.length:Int) bM=some r)∧Aside0 (kq≤k1)∧Aside0 (Below w.heap.size w w')));case atStart=>exact⟨(k8),(0),zz6,zz6,H',⟨Nat.le_refl _⟩,⟨zz2⟩⟩
   case round =>
    clear H';(try clear c1);(try clear p2);(try clear c3);(try clear iQ);(try clear p2);obtain⟨cE,bM,rfl,rfl,HA,HK2,HB⟩:=hrel
    cases gk with
    | zero=>exact absurd HA.out (by simp[aAt.l1])
    | succ k2 =>
     have H:=HA.out;clear HA;simp only[aAt.l1]at H;by_cases c4:bM<(l1.length:Int);rotate_left
     ·rw[if_neg c4]at H;have gJ:=decide_eq_false c4;clear c4;have H':=zK_ H;clear H;go_wp2;(repeat(go_quiet (fail);try go_wp2));go_roundg k2;(case measure=>have:=HK1.out;have:=HK2.out;omega);case rel=>exact⟨(cE),(wrap64 (dR+1)),zz6,zz6,H',⟨aGi⟩,⟨zz2⟩⟩
     rw[if_pos c4]at H;have gJ:=decide_eq_true c4;clear c4;by_cases c5:0≤bM;rotate_left
     ·rw[if_neg c5]at H;exact absurd H (by simp)
     rw[if_pos c5]at H;have f7:=decide_eq_true c5;clear c5;by_cases c6:bM<(l1.length:Int);rotate_left
     ·rw[if_neg c6]at H;exact absurd H (by simp)
     rw[if_pos c6]at H;have kS:=decide_eq_true c6;clear c6;by_cases c7:0≤((aA4 l1 bM).f0);rotate_left
     ·rw[if_neg c7]at H;exact absurd H (by simp)
     rw[if_pos c7]at H;have f6:=eq_true c7;have sW:decide (0≤((aA4 l1 bM).f0))=true:=decide_eq_true c7;clear c7;obtain⟨iS,mY⟩:∃ j_:Int,(shr .i64 cE ((aA4 l1 bM).f0))=j_:=⟨_,rfl⟩;(replace H:(if(Go.bits .and .i64 (iS) 1)=1 then(if 0≤((aA4 l1 bM).f1) then(aAt.l1 k2 a0 l1 (Go.bits .or .i64 cE (Go.bits .or .i64 (shl .i64 1 ((aA4 l1 bM).f0)) (shl .i64 1 ((aA4 l1 bM).f1)))) a0 dR l1 (l1.length:Int) (wrap64 (bM+1))) else(none)) else(if 0≤((aA4 l1 bM).f1) then(if(Go.bits .and .i64 (shr .i64 cE ((aA4 l1 bM).f1)) 1)=1 then(aAt.l1 k2 a0 l1 (Go.bits .or .i64 cE (Go.bits .or .i64 (shl .i64 1 ((aA4 l1 bM).f0)) (shl .i64 1 ((aA4 l1 bM).f1)))) a0 dR l1 (l1.length:Int) (wrap64 (bM+1))) else(aAt.l1 k2 a0 l1 cE a0 dR l1 (l1.length:Int) (wrap64 (bM+1)))) else(none)))=some r:=by first|(rw[mY]at H;exact H)|(simp only[mY]at H ⊢;exact H));have zF:(cE/2^min ((aA4 l1 bM).f0).toNat 64)=iS:=mY;have NE:((aA4 l1 bM).f0)≤64→(cE/2^((aA4 l1 bM).f0).toNat)=iS:=aH4 mY;by_cases c9:(Go.bits .and .i64 (iS) 1)=1
     ·rw[if_pos c9]at H;have iZ:((Go.bits .and .i64 (iS) 1)==1)=true:=beq_iff_eq.mpr c9;have xI:((Go.bits .and .i64 (iS) 1) != 1)=false:=bne_eq_false_iff_eq.mpr c9;clear c9;have g3:=eq_true (of_decide_eq_true zz4:0≤((aA4 l1 bM).f0));obtain⟨pA,qL⟩:∃ j_:Int,(shl .i64 1 ((aA4 l1 bM).f0))=j_:=⟨_,rfl⟩;(replace H:(if 0≤((aA4 l1 bM).f1) then(aAt.l1 k2 a0 l1 (Go.bits .or .i64 cE (Go.bits .or .i64 (pA) (shl .i64 1 ((aA4 l1 bM).f1)))) a0 dR l1 (l1.length:Int) (wrap64 (bM+1))) else(none))=some r:=by first|(rw[qL]at H;exact H)|(simp only[qL]at H ⊢;exact H));have tV:(IntKind.i64.wrap (1*2^min ((aA4 l1 bM).f0).toNat 64))=pA:=qL;have tU:((aA4 l1 bM).f0)≤64→(IntKind.i64.wrap (1*2^((aA4 l1 bM).f0).toNat))=pA:=aEy qL;(have J8:(IntKind.i64.wrap (2^min ((aA4 l1 bM).f0).toNat 64))=pA:=by have h_:=tV;rw[Int.one_mul]at h_;exact h_);(have J7:((aA4 l1 bM).f0)≤64→(IntKind.i64.wrap (2^((aA4 l1 bM).f0).toNat))=pA:=fun hle_=>by have h_:=tU hle_;rw[Int.one_mul]at h_;exact h_);have J5:(wrap64 (1*2^min ((aA4 l1 bM).f0).toNat 64))=pA:=(aE7 _).symm.trans tV;(have J6:((aA4 l1 bM).f0)≤64→(wrap64 (1*2^((aA4 l1 bM).f0).toNat))=pA:=fun h_=>(aE7 _).symm.trans (tU h_));by_cases c12:0≤((aA4 l1 bM).f1);rotate_left
      ·rw[if_neg c12]at H;exact absurd H (by simp)
      rw[if_pos c12]at H;have nE:=eq_true c12;have qS:decide (0≤((aA4 l1 bM).f1))=true:=decide_eq_true c12;clear c12;obtain⟨qA,qK⟩:∃ j_:Int,(shl .i64 1 ((aA4 l1 bM).f1))=j_:=⟨_,rfl⟩;(replace H:(aAt.l1 k2 a0 l1 (Go.bits .or .i64 cE (Go.bits .or .i64 (pA) (qA))) a0 dR l1 (l1.length:Int) (wrap64 (bM+1)))=some r:=by first|(rw[qK]at H;exact H)|(simp only[qK]at H ⊢;exact H));have tT:(IntKind.i64.wrap (1*2^min ((aA4 l1 bM).f1).toNat 64))=qA:=qK;have tS:((aA4 l1 bM).f1)≤64→(IntKind.i64.wrap (1*2^((aA4 l1 bM).f1).toNat))=qA:=aEy qK;(have J1:(IntKind.i64.wrap (2^min ((aA4 l1 bM).f1).toNat 64))=qA:=by have h_:=tT;rw[Int.one_mul]at h_;exact h_);(have J0:((aA4 l1 bM).f1)≤64→(IntKind.i64.wrap (2^((aA4 l1 bM).f1).toNat))=qA:=fun hle_=>by have h_:=tS hle_;rw[Int.one_mul]at h_;exact h_);have JY:(wrap64 (1*2^min ((aA4 l1 bM).f1).toNat 64))=qA:=(aE7 _).symm.trans tT;(have JZ:((aA4 l1 bM).f1)≤64→(wrap64 (1*2^((aA4 l1 bM).f1).toNat))=qA:=fun h_=>(aE7 _).symm.trans (tS h_));have H':=zK_ H;clear H;have p101:0≤(bM:Int):=of_decide_eq_true zz4;have q101:bM<(l1.length:Int):=of_decide_eq_true zz4;obtain⟨dU,e101,bL,iC⟩:=aCo HR1.out bM p101 q101;cases e101;replace bL:=(HB.out.cell (World.block_lt_of_cell? w _ bL)).trans bL;replace iC:=(HB.out.cell (World.block_lt_of_cell? w _ iC)).trans iC;replace p101:=eq_true p101;replace q101:=eq_true q101;(go_wp2_with (first|((with_reducible refine aAn (N:=7) rfl ?_);refine aAl ?hg (N:=7) ?hd (cs:=#[.int .i64 0,.int .i64 0]) (t:=57) ?hr ?_;(case hd=>rfl);(case hg=>rfl);(case hr=>exact aCp);intro aU hg w14 hbox hb;have n_:=zA4 (aA2 zz2 hb) hbox (aDi:w.heap.size≤aU) (aDi:w.heap.size≤aU);clear HB;obtain⟨HB,aH,GW102,GE102⟩:=n_;clear hb hbox hg;have d8:=aC7 aH;have d7:=aC6 aH;have d4:=aA0 aH.out 0;have d3:=aA0 aH.out 1)));(repeat(go_quiet (first|((with_reducible refine aAn (N:=7) rfl ?_);refine aAl ?hg (N:=7) ?hd (cs:=#[.int .i64 0,.int .i64 0]) (t:=57) ?hr ?_;(case hd=>rfl);(case hg=>rfl);(case hr=>exact aCp);intro aU hg w14 hbox hb;have n_:=zA4 (aA2 zz2 hb) hbox (aDi:w.heap.size≤aU) (aDi:w.heap.size≤aU);clear HB;obtain⟨HB,aH,GW102,GE102⟩:=n_;clear hb hbox hg;have d8:=aC7 aH;have d7:=aC6 aH;have d4:=aA0 aH.out 0;have d3:=aA0 aH.out 1));try go_wp2_with (first|((with_reducible refine aAn (N:=7) rfl ?_);refine aAl ?hg (N:=7) ?hd (cs:=#[.int .i64 0,.int .i64 0]) (t:=57) ?hr ?_;(case hd=>rfl);(case hg=>rfl);(case hr=>exact aCp);intro aU hg w14 hbox hb;have n_:=zA4 (aA2 zz2 hb) hbox (aDi:w.heap.size≤aU) (aDi:w.heap.size≤aU);clear HB;obtain⟨HB,aH,GW102,GE102⟩:=n_;clear hb hbox hg;have d8:=aC7 aH;have d7:=aC6 aH;have d4:=aA0 aH.out 0;have d3:=aA0 aH.out 1))));go_roundg k2;(case measure=>have:=HK1.out;have:=HK2.out;omega);case rel=>exact⟨(Go.bits .or .i64 cE (Go.bits .or .i64 (pA) (qA))),(wrap64 (bM+1)),(by first|rfl|(simp;done)|(simp only[← qL,← qK]<;>(first|rfl|simp))|(simp[*];done)),zz6,H',⟨aGi⟩,⟨aRp⟩⟩
     rw[if_neg c9]at H;have iZ:((Go.bits .and .i64 (iS) 1)==1)=false:=beq_eq_false_iff_ne.mpr c9;have xI:((Go.bits .and .i64 (iS) 1) != 1)=true:=bne_iff_ne.mpr c9;by_cases c16:0≤((aA4 l1 bM).f1);rotate_left
     ·rw[if_neg c16]at H;exact absurd H (by simp)
     rw[if_pos c16]at H;have nC:=eq_true c16;have sQ:decide (0≤((aA4 l1 bM).f1))=true:=decide_eq_true c16;clear c16;obtain⟨eH,iE⟩:∃ j_:Int,(shr .i64 cE ((aA4 l1 bM).f1))=j_:=⟨_,rfl⟩;(replace H:(if(Go.bits .and .i64 (eH) 1)=1 then(aAt.l1 k2 a0 l1 (Go.bits .or .i64 cE (Go.bits .or .i64 (shl .i64 1 ((aA4 l1 bM).f0)) (shl .i64 1 ((aA4 l1 bM).f1)))) a0 dR l1 (l1.length:Int) (wrap64 (bM+1))) else(aAt.l1 k2 a0 l1 cE a0 dR l1 (l1.length:Int) (wrap64 (bM+1))))=some r:=by first|(rw[iE]at H;exact H)|(simp only[iE]at H ⊢;exact H));have pG:(cE/2^min ((aA4 l1 bM).f1).toNat 64)=eH:=iE;have rF:((aA4 l1 bM).f1)≤64→(cE/2^((aA4 l1 bM).f1).toNat)=eH:=aH4 iE;by_cases c18:(Go.bits .and .i64 (eH) 1)=1;rotate_left
     ·rw[if_neg c18]at H;have oT:((Go.bits .and .i64 (eH) 1)==1)=false:=beq_eq_false_iff_ne.mpr c18;have sP:((Go.bits .and .i64 (eH) 1) != 1)=true:=bne_iff_ne.mpr c18;have H':=zK_ H;clear H;have p101:0≤(bM:Int):=of_decide_eq_true zz4;have q101:bM<(l1.length:Int):=of_decide_eq_true zz4;obtain⟨dU,e101,bL,iC⟩:=aCo HR1.out bM p101 q101;cases e101;replace bL:=(HB.out.cell (World.block_lt_of_cell? w _ bL)).trans bL;replace iC:=(HB.out.cell (World.block_lt_of_cell? w _ iC)).trans iC;replace p101:=eq_true p101;replace q101:=eq_true q101;(go_wp2_with (first|((with_reducible refine aAn (N:=7) rfl ?_);refine aAl ?hg (N:=7) ?hd (cs:=#[.int .i64 0,.int .i64 0]) (t:=57) ?hr ?_;(case hd=>rfl);(case hg=>rfl);(case hr=>exact aCp);intro aU hg w25 hbox hb;have n_:=zA4 (aA2 zz2 hb) hbox (aDi:w.heap.size≤aU) (aDi:w.heap.size≤aU);clear HB;obtain⟨HB,aH,GW102,GE102⟩:=n_;clear hb hbox hg;have kG:=aC7 aH;have kF:=aC6 aH;have j8:=aA0 aH.out 0;have j7:=aA0 aH.out 1)));(repeat(go_quiet (first|((with_reducible refine aAn (N:=7) rfl ?_);refine aAl ?hg (N:=7) ?hd (cs:=#[.int .i64 0,.int .i64 0]) (t:=57) ?hr ?_;(case hd=>rfl);(case hg=>rfl);(case hr=>exact aCp);intro aU hg w25 hbox hb;have n_:=zA4 (aA2 zz2 hb) hbox (aDi:w.heap.size≤aU) (aDi:w.heap.size≤aU);clear HB;obtain⟨HB,aH,GW102,GE102⟩:=n_;clear hb hbox hg;have kG:=aC7 aH;have kF:=aC6 aH;have j8:=aA0 aH.out 0;have j7:=aA0 aH.out 1));try go_wp2_with (first|((with_reducible refine aAn (N:=7) rfl ?_);refine aAl ?hg (N:=7) ?hd (cs:=#[.int .i64 0,.int .i64 0]) (t:=57) ?hr ?_;(case hd=>rfl);(case hg=>rfl);(case hr=>exact aCp);intro aU hg w25 hbox hb;have n_:=zA4 (aA2 zz2 hb) hbox (aDi:w.heap.size≤aU) (aDi:w.heap.size≤aU);clear HB;obtain⟨HB,aH,GW102,GE102⟩:=n_;clear hb hbox hg;have kG:=aC7 aH;have kF:=aC6 aH;have j8:=aA0 aH.out 0;have j7:=aA0 aH.out 1))));go_roundg k2;(case measure=>have:=HK1.out;have:=HK2.out;omega);case rel=>exact⟨(cE),(wrap64 (bM+1)),zz6,zz6,H',⟨aGi⟩,⟨aRp⟩⟩
     rw[if_pos c18]at H;have oT:((Go.bits .and .i64 (eH) 1)==1)=true:=beq_iff_eq.mpr c18;have sP:((Go.bits .and .i64 (eH) 1) != 1)=false:=bne_eq_false_iff_eq.mpr c18;clear c18;have DG:=eq_true (of_decide_eq_true zz4:0≤((aA4 l1 bM).f0));obtain⟨o9,qJ⟩:∃ j_:Int,(shl .i64 1 ((aA4 l1 bM).f0))=j_:=⟨_,rfl⟩;(replace H:(aAt.l1 k2 a0 l1 (Go.bits .or .i64 cE (Go.bits .or .i64 (o9) (shl .i64 1 ((aA4 l1 bM).f1)))) a0 dR l1 (l1.length:Int) (wrap64 (bM+1)))=some r:=by first|(rw[qJ]at H;exact H)|(simp only[qJ]at H ⊢;exact H));have tR:(IntKind.i64.wrap (1*2^min ((aA4 l1 bM).f0).toNat 64))=o9:=qJ;have tQ:((aA4 l1 bM).f0)≤64→(IntKind.i64.wrap (1*2^((aA4 l1 bM).f0).toNat))=o9:=aEy qJ;(have JQ:(IntKind.i64.wrap (2^min ((aA4 l1 bM).f0).toNat 64))=o9:=by have h_:=tR;rw[Int.one_mul]at h_;exact h_);(have JP:((aA4 l1 bM).f0)≤64→(IntKind.i64.wrap (2^((aA4 l1 bM).f0).toNat))=o9:=fun hle_=>by have h_:=tQ hle_;rw[Int.one_mul]at h_;exact h_);have JN:(wrap64 (1*2^min ((aA4 l1 bM).f0).toNat 64))=o9:=(aE7 _).symm.trans tR;(have JO:((aA4 l1 bM).f0)≤64→(wrap64 (1*2^((aA4 l1 bM).f0).toNat))=o9:=fun h_=>(aE7 _).symm.trans (tQ h_));have nK:=eq_true (of_decide_eq_true zz4:0≤((aA4 l1 bM).f1));obtain⟨pZ,qI⟩:∃ j_:Int,(shl .i64 1 ((aA4 l1 bM).f1))=j_:=⟨_,rfl⟩;(replace H:(aAt.l1 k2 a0 l1 (Go.bits .or .i64 cE (Go.bits .or .i64 (o9) (pZ))) a0 dR l1 (l1.length:Int) (wrap64 (bM+1)))=some r:=by first|(rw[qI]at H;exact H)|(simp only[qI]at H ⊢;exact H));have tP:(IntKind.i64.wrap (1*2^min ((aA4 l1 bM).f1).toNat 64))=pZ:=qI;have tO:((aA4 l1 bM).f1)≤64→(IntKind.i64.wrap (1*2^((aA4 l1 bM).f1).toNat))=pZ:=aEy qI;(have JM:(IntKind.i64.wrap (2^min ((aA4 l1 bM).f1).toNat 64))=pZ:=by have h_:=tP;rw[Int.one_mul]at h_;exact h_);(have JL:((aA4 l1 bM).f1)≤64→(IntKind.i64.wrap (2^((aA4 l1 bM).f1).toNat))=pZ:=fun hle_=>by have h_:=tO hle_;rw[Int.one_mul]at h_;exact h_);have JJ:(wrap64 (1*2^min ((aA4 l1 bM).f1).toNat 64))=pZ:=(aE7 _).symm.trans tP;(have JK:((aA4 l1 bM).f1)≤64→(wrap64 (1*2^((aA4 l1 bM).f1).toNat))=pZ:=fun h_=>(aE7 _).symm.trans (tO h_));have H':=zK_ H;clear H;have p101:0≤(bM:Int):=of_decide_eq_true zz4;have q101:bM<(l1.length:Int):=of_decide_eq_true zz4;obtain⟨dU,e101,bL,iC⟩:=aCo HR1.out bM p101 q101;cases e101;replace bL:=(HB.out.cell (World.block_lt_of_cell? w _ bL)).trans bL;replace iC:=(HB.out.cell (World.block_lt_of_cell? w _ iC)).trans iC;replace p101:=eq_true p101;replace q101:=eq_true q101;(go_wp2_with (first|((with_reducible refine aAn (N:=7) rfl ?_);refine aAl ?hg (N:=7) ?hd (cs:=#[.int .i64 0,.int .i64 0]) (t:=57) ?hr ?_;(case hd=>rfl);(case hg=>rfl);(case hr=>exact aCp);intro aU hg w23 hbox hb;have n_:=zA4 (aA2 zz2 hb) hbox (aDi:w.heap.size≤aU) (aDi:w.heap.size≤aU);clear HB;obtain⟨HB,aH,GW102,GE102⟩:=n_;clear hb hbox hg;have nB:=aC7 aH;have nA:=aC6 aH;have m7:=aA0 aH.out 0;have m6:=aA0 aH.out 1)));(repeat(go_quiet (first|((with_reducible refine aAn (N:=7) rfl ?_);refine aAl ?hg (N:=7) ?hd (cs:=#[.int .i64 0,.int .i64 0]) (t:=57) ?hr ?_;(case hd=>rfl);(case hg=>rfl);(case hr=>exact aCp);intro aU hg w23 hbox hb;have n_:=zA4 (aA2 zz2 hb) hbox (aDi:w.heap.size≤aU) (aDi:w.heap.size≤aU);clear HB;obtain⟨HB,aH,GW102,GE102⟩:=n_;clear hb hbox hg;have nB:=aC7 aH;have nA:=aC6 aH;have m7:=aA0 aH.out 0;have m6:=aA0 aH.out 1));try go_wp2_with (first|((with_reducible refine aAn (N:=7) rfl ?_);refine aAl ?hg (N:=7) ?hd (cs:=#[.int .i64 0,.int .i64 0]) (t:=57) ?hr ?_;(case hd=>rfl);(case hg=>rfl);(case hr=>exact aCp);intro aU hg w23 hbox hb;have n_:=zA4 (aA2 zz2 hb) hbox (aDi:w.heap.size≤aU) (aDi:w.heap.size≤aU);clear HB;obtain⟨HB,aH,GW102,GE102⟩:=n_;clear hb hbox hg;have nB:=aC7 aH;have nA:=aC6 aH;have m7:=aA0 aH.out 0;have m6:=aA0 aH.out 1))));go_roundg k2;(case measure=>have:=HK1.out;have:=HK2.out;omega);case rel=>exact⟨(Go.bits .or .i64 cE (Go.bits .or .i64 (o9) (pZ))),(wrap64 (bM+1)),(by first|rfl|(simp;done)|(simp only[← qJ,← qI]<;>(first|rfl|simp))|(simp[*];done)),zz6,H',⟨aGi⟩,⟨aRp⟩⟩
end Go.Proofs.Ytnbljcgdgblgoaa.P
end
section
namespace Go.Proofs.Ytnbljcgdgblgoaa.P
open Go.RowKit Go.Proofs.YtnbljcgdgblgoaaW.PrintWords Go.Proofs.YtnbljcgdgblgoaaW.PrintLast Go.Proofs.YtnbljcgdgblgoaaW.PrintMore
attribute [local go_sem] aCt aCr aDb aDa aCa aC9 aCs aCq
def aD7.f (a0:Int) (a1:Int) (a2:Int):Option (Bool):=if a0≥a1 then(some (decide (a0≤a2))) else(some false)
theorem aD7.calls (a0:Int) (a1:Int) (a2:Int) (r:Bool) (w:World) (h:aD7.f a0 a1 a2=some r) :
  Calls Try.prog 39 #[.int .i64 a0,.int .i64 a1,.int .i64 a2] w fun e w'=>e = .returned (.bool r)∧aB8 w w':=by
 have H:(if a0≥a1 then(some (decide (a0≤a2))) else(some false))=some r:=h;clear h;by_cases c4:a0≥a1
 ·rw[if_pos c4]at H;have gJ:decide (a1≤a0)=true:=decide_eq_true c4;clear c4;obtain rfl:=Option.some.inj H;go_enter Try.func39,Try.ntmps39;go_wp2;go_ret;exact⟨zz6,by repeat(first|exact aB8.refl _|apply aB8.step)⟩
 rw[if_neg c4]at H;have gJ:decide (a1≤a0)=false:=decide_eq_false c4;clear c4;obtain rfl:=Option.some.inj H;go_enter Try.func39,Try.ntmps39;go_wp2;go_ret;exact⟨zz6,by repeat(first|exact aB8.refl _|apply aB8.step)⟩
mutual
def aBe.j0:Nat→Bool→Int→List (S57)→Option (Bool)
 | 0,_,_,_=>none
 | k+1,pV,aT,aM=>if pV=true then(some false) else(aBe.l0 k aM (aM.length:Int) 0 aT aM)
def aBe.l0:Nat→List (S57)→Int→Int→Int→List (S57)→Option (Bool)
 | 0,_,_,_,_,_=>none
 | k+1,k6,lZ,lR,aT,aM=>if lR<lZ then(if 0≤lR then(if lR<(k6.length:Int) then(if((aA4 k6 lR).f0)<0 then(some false) else(if((aA4 k6 lR).f0)≥((aA4 k6 lR).f1) then(some false) else(if((aA4 k6 lR).f1)≥aT then(some false) else(aBe.l0 k k6 lZ (wrap64 (lR+1)) aT aM)))) else(none)) else(none)) else(some true)
end
def aBe.f (k:Nat) (aD:Int) (aC:List (S57)):Option (Bool):=(aD7.f aD 1 6).bind fun aW=>(if aW=true then(aBe.j0 k (decide ((aC.length:Int)>12)) aD aC) else(aBe.j0 k true aD aC))
theorem aBe.mono_l:∀ k,(∀ y0 y1 y2,LeO (aBe.j0 k y0 y1 y2) (aBe.j0 (k+1) y0 y1 y2))∧(∀ y0 y1 y2 y3 y4,LeO (aBe.l0 k y0 y1 y2 y3 y4) (aBe.l0 (k+1) y0 y1 y2 y3 y4))
 | 0=>⟨fun _ _ _ r h=>by simp[aBe.j0]at h,fun _ _ _ _ _ r h=>by simp[aBe.l0]at h⟩
 | k+1=>by
  obtain⟨ih0,ih1⟩:=aBe.mono_l k
  refine⟨?_,?_⟩
  ·intro y0 y1 y2
   unfold aBe.j0
   exact zm1
  ·intro y0 y1 y2 y3 y4
   unfold aBe.l0
   exact zm1
theorem aBe.mono:∀ a0 a1 k,LeO (aBe.f k a0 a1) (aBe.f (k+1) a0 a1):=by
 intro a0 a1 k;obtain⟨ih0,ih1⟩:=aBe.mono_l k;unfold aBe.f;exact zm1
theorem aBe.calls (k:Nat) (aD:Int) (aI:Option Addr) (aG:Nat) (aC:List (S57)) (r:Bool) (w:World) (hr0_1:Kd.C k57 w aI aC.length aC) (hc0_1:aC.length≤aG) (h:aBe.f k aD aC=some r) :
  Calls Try.prog 90 #[.agg #[.int .i64 aD,.slice aI aC.length aG]] w fun e w'=>e = .returned (.bool r)∧Below w.heap.size w w':=by
 have hu25:=Try.underlying25;have hu57:=Try.underlying57;have b5:=zK_ hr0_1;have bT:=zK_ hc0_1;clear hr0_1 hc0_1;have HB:=zK_ (Below.refl w.heap.size w);have H:((aD7.f aD 1 6).bind fun aW=>(if aW=true then(aBe.j0 k (decide ((aC.length:Int)>12)) aD aC) else(aBe.j0 k true aD aC)))=some r:=h;clear h;have HC2:=zK_ H;clear H;go_enter Try.func90,Try.ntmps90;(go_upto_region 1 with (first|((with_reducible refine aAn (N:=1) rfl ?_);(try(refine aBi (by rfl) ?_;dsimp only));refine aAl ?hg (N:=1) ?hd (cs:=#[.int .i64 aD,.slice aI aC.length aG]) (t:=25) ?hr ?_;(case hd=>rfl);(case hg=>rfl);(case hr=>exact aCp);intro aE hg w3 hbox hb;have n_:=zA4 (aA2 zz2 hb) hbox (aDi:w.heap.size≤aE) (aDi:w.heap.size≤aE);clear HB;obtain⟨HB,aA,GW101,GE101⟩:=n_;clear hb hbox hg)));(try simp only[Act.put,List.setIfInBounds_toArray,List.set_cons_zero,List.set_cons_succ]);go_cut [14] (fun v14 wc=>∃ (kq:Nat) (dE:Bool),v14 = .bool dE∧Aside0 (aBe.j0 kq dE aD aC=some r)∧Aside0 (kq≤k)∧Aside0 (wc.heap[aE]? = some (.cells #[.int .i64 aD,(.slice aI aC.length aG)] 25 (0,0)))∧Aside0 (Below w.heap.size w wc))
 case first =>
  have H:=HC2.out;clear HC2;obtain⟨aW,A40,H⟩:=zO_ H;(try dsimp only at H);have A4:=zK_ A40;clear A40;by_cases c5:aW=true
  ·subst c5;rw[if_pos rfl]at H;have H':=zK_ H;clear H;have jT:=aC7 aA;have jS:=aC6 aA;have jR:=aA0 aA.out 0;have jQ:=aA0 aA.out 1;(go_wp2_with (first|((with_reducible refine aAb (f:=39) rfl ?_);refine aBd (some 7) rfl rfl Try.func39 (by kernel_rfl) rfl #[.int .i64 aD,.int .i64 1,.int .i64 6] rfl zz3 ?_;(with_reducible refine(aD7.calls aD 1 6 true _ A4.out).mono ?_);rintro e w' ⟨rfl,⟨nd,rfl⟩⟩;refine⟨_,rfl,?_⟩)));(go_meet);case rel=>exact⟨_,(decide ((aC.length:Int)>12)),zz6,H',⟨by first|omega|exact Nat.le_refl _⟩,⟨zz0⟩,⟨zz1⟩⟩
  replace c5:=Bool.eq_false_iff.mpr c5;subst c5;rw[if_neg (show ¬ (false=true) by decide)]at H;have H':=zK_ H;clear H;have gI:=aC7 aA;have gH:=aC6 aA;have gE:=aA0 aA.out 0;have gD:=aA0 aA.out 1;(go_wp2_with (first|((with_reducible refine aAb (f:=39) rfl ?_);refine aBd (some 7) rfl rfl Try.func39 (by kernel_rfl) rfl #[.int .i64 aD,.int .i64 1,.int .i64 6] rfl zz3 ?_;(with_reducible refine(aD7.calls aD 1 6 false _ A4.out).mono ?_);rintro e w' ⟨rfl,⟨nd,rfl⟩⟩;refine⟨_,rfl,?_⟩)));(go_meet);case rel=>exact⟨_,(true),zz6,H',⟨by first|omega|exact Nat.le_refl _⟩,⟨zz0⟩,⟨zz1⟩⟩
 case rest =>
  clear HC2;(try clear p2);(try clear c3);(try clear c5);(try clear jT);(try clear jS);(try clear gI);(try clear gH);(try clear jR);(try clear jQ);(try clear gE);(try clear gD);obtain⟨kq,dE,rfl,HA,HJ1,aA,HB⟩:=hcut
  cases kq with
  | zero=>exact absurd HA.out (by simp[aBe.j0])
  | succ kj1 =>
   have H:=HA.out;clear HA;simp only[aBe.j0]at H;by_cases c8:dE=true
   ·subst c8;rw[if_pos rfl]at H;obtain rfl:=Option.some.inj H;go_wp2;go_ret;exact⟨zz9,zz1⟩
   replace c8:=Bool.eq_false_iff.mpr c8;subst c8;rw[if_neg (show ¬ (false=true) by decide)]at H;have H':=zK_ H;clear H;have gG:=aC7 aA;have gF:=aC6 aA;have gC:=aA0 aA.out 0;have gB:=aA0 aA.out 1;go_wp2;(go_loopg [18] kj1 (fun kq v18 w'=>∃ (cG:Int),v18 = .int .i64 cG∧Aside0 (aBe.l0 kq aC (aC.length:Int) cG aD aC=some r)∧Aside0 (kq≤kj1)∧Aside0 (w'.heap[aE]? = some (.cells #[.int .i64 aD,(.slice aI aC.length aG)] 25 (0,0)))∧Aside0 (Below w.heap.size w w')));case atStart=>exact⟨(0),zz6,H',⟨Nat.le_refl _⟩,⟨zz0⟩,⟨zz1⟩⟩
   case round =>
    clear H';(try clear p2);(try clear c3);(try clear c5);(try clear c8);(try clear c9);(try clear jT);(try clear jS);(try clear gI);(try clear gH);(try clear gG);(try clear gF);(try clear jR);(try clear jQ);(try clear gE);(try clear gD);(try clear gC);(try clear gB);(try clear p2);obtain⟨cG,rfl,HA,HK2,aA,HB⟩:=hrel
    cases gk with
    | zero=>exact absurd HA.out (by simp[aBe.l0])
    | succ k2 =>
     have H:=HA.out;clear HA;simp only[aBe.l0]at H;by_cases c10:cG<(aC.length:Int);rotate_left
     ·rw[if_neg c10]at H;have g3:=decide_eq_false c10;clear c10;obtain rfl:=Option.some.inj H;go_wp2;go_ret;exact⟨zz9,zz1⟩
     rw[if_pos c10]at H;have g3:=decide_eq_true c10;clear c10;by_cases c11:0≤cG;rotate_left
     ·rw[if_neg c11]at H;exact absurd H (by simp)
     rw[if_pos c11]at H;have nL:=decide_eq_true c11;clear c11;by_cases c12:cG<(aC.length:Int);rotate_left
     ·rw[if_neg c12]at H;exact absurd H (by simp)
     rw[if_pos c12]at H;have nE:=decide_eq_true c12;clear c12;by_cases c13:((aA4 aC cG).f0)<0
     ·rw[if_pos c13]at H;have iJ:=decide_eq_true c13;clear c13;obtain rfl:=Option.some.inj H;have p103:0≤(cG:Int):=of_decide_eq_true zz4;have q103:cG<(aC.length:Int):=of_decide_eq_true zz4;obtain⟨bR,e103,aX,bG⟩:=aCo b5.out cG p103 q103;cases e103;replace aX:=(HB.out.cell (World.block_lt_of_cell? w _ aX)).trans aX;replace bG:=(HB.out.cell (World.block_lt_of_cell? w _ bG)).trans bG;replace p103:=eq_true p103;replace q103:=eq_true q103;(go_wp2_with (first|((with_reducible refine aAn (N:=4) rfl ?_);(try(refine aBi (by rfl) ?_;dsimp only));refine aAl ?hg (N:=4) ?hd (cs:=#[.int .i64 0,.int .i64 0]) (t:=57) ?hr ?_;(case hd=>rfl);(case hg=>rfl);(case hr=>exact aCp);intro a7 hg w14 hbox hb;have n_:=zA7 (aA3 (g:=aE) (o:=.cells #[.int .i64 aD,.slice (some bR) aC.length aG] 25 (0,0)) zz0 hb) (aA2 zz1 hb) hbox (aEg:w.heap.size≤a7) (aEg:w.heap.size≤a7) (aLx:aE≠a7) (aLw:a7≠aE);clear aA HB;obtain⟨aA,HB,bE,GW104,GE104,bW,b3⟩:=n_;clear hb hbox hg;have ND:=b3.out;have L9:=bW.out;have oA:=aC7 bE;have n9:=aC6 bE;have n0:=aA0 bE.out 0;have nZ:=aA0 bE.out 1)));go_ret;exact⟨zz9,aJ2⟩
     rw[if_neg c13]at H;have iJ:=decide_eq_false c13;clear c13;by_cases c17:((aA4 aC cG).f0)≥((aA4 aC cG).f1)
     ·rw[if_pos c17]at H;have oU:decide (((aA4 aC cG).f1)≤((aA4 aC cG).f0))=true:=decide_eq_true c17;clear c17;obtain rfl:=Option.some.inj H;have p103:0≤(cG:Int):=of_decide_eq_true zz4;have q103:cG<(aC.length:Int):=of_decide_eq_true zz4;obtain⟨bR,e103,aX,bG⟩:=aCo b5.out cG p103 q103;cases e103;replace aX:=(HB.out.cell (World.block_lt_of_cell? w _ aX)).trans aX;replace bG:=(HB.out.cell (World.block_lt_of_cell? w _ bG)).trans bG;replace p103:=eq_true p103;replace q103:=eq_true q103;(go_wp2_with (first|((with_reducible refine aAn (N:=4) rfl ?_);(try(refine aBi (by rfl) ?_;dsimp only));refine aAl ?hg (N:=4) ?hd (cs:=#[.int .i64 0,.int .i64 0]) (t:=57) ?hr ?_;(case hd=>rfl);(case hg=>rfl);(case hr=>exact aCp);intro a7 hg w18 hbox hb;have n_:=zA7 (aA3 (g:=aE) (o:=.cells #[.int .i64 aD,.slice (some bR) aC.length aG] 25 (0,0)) zz0 hb) (aA2 zz1 hb) hbox (aEg:w.heap.size≤a7) (aEg:w.heap.size≤a7) (aLx:aE≠a7) (aLw:a7≠aE);clear aA HB;obtain⟨aA,HB,bE,GW104,GE104,bW,b3⟩:=n_;clear hb hbox hg;have wL:=b3.out;have wJ:=bW.out;have lN:=aC7 bE;have lM:=aC6 bE;have lH:=aA0 bE.out 0;have lG:=aA0 bE.out 1)));go_ret;exact⟨zz9,aJ2⟩
     rw[if_neg c17]at H;have oU:decide (((aA4 aC cG).f1)≤((aA4 aC cG).f0))=false:=decide_eq_false c17;clear c17;by_cases c21:((aA4 aC cG).f1)≥aD
     ·rw[if_pos c21]at H;have nK:decide (aD≤((aA4 aC cG).f1))=true:=decide_eq_true c21;clear c21;obtain rfl:=Option.some.inj H;have p103:0≤(cG:Int):=of_decide_eq_true zz4;have q103:cG<(aC.length:Int):=of_decide_eq_true zz4;obtain⟨bR,e103,aX,bG⟩:=aCo b5.out cG p103 q103;cases e103;replace aX:=(HB.out.cell (World.block_lt_of_cell? w _ aX)).trans aX;replace bG:=(HB.out.cell (World.block_lt_of_cell? w _ bG)).trans bG;replace p103:=eq_true p103;replace q103:=eq_true q103;(go_wp2_with (first|((with_reducible refine aAn (N:=4) rfl ?_);(try(refine aBi (by rfl) ?_;dsimp only));refine aAl ?hg (N:=4) ?hd (cs:=#[.int .i64 0,.int .i64 0]) (t:=57) ?hr ?_;(case hd=>rfl);(case hg=>rfl);(case hr=>exact aCp);intro a7 hg w22 hbox hb;have n_:=zA7 (aA3 (g:=aE) (o:=.cells #[.int .i64 aD,.slice (some bR) aC.length aG] 25 (0,0)) zz0 hb) (aA2 zz1 hb) hbox (aEg:w.heap.size≤a7) (aEg:w.heap.size≤a7) (aLx:aE≠a7) (aLw:a7≠aE);clear aA HB;obtain⟨aA,HB,bE,GW104,GE104,bW,b3⟩:=n_;clear hb hbox hg;have NA:=b3.out;have L6:=bW.out;have nB:=aC7 bE;have nA:=aC6 bE;have m7:=aA0 bE.out 0;have m6:=aA0 bE.out 1;have jI:=aC7 aA;have jH:=aC6 aA;have jA:=aA0 aA.out 0;have i9:=aA0 aA.out 1)));go_ret;exact⟨zz9,aJ2⟩
     rw[if_neg c21]at H;have nK:decide (aD≤((aA4 aC cG).f1))=false:=decide_eq_false c21;clear c21;have H':=zK_ H;clear H;have p103:0≤(cG:Int):=of_decide_eq_true zz4;have q103:cG<(aC.length:Int):=of_decide_eq_true zz4;obtain⟨bR,e103,aX,bG⟩:=aCo b5.out cG p103 q103;cases e103;replace aX:=(HB.out.cell (World.block_lt_of_cell? w _ aX)).trans aX;replace bG:=(HB.out.cell (World.block_lt_of_cell? w _ bG)).trans bG;replace p103:=eq_true p103;replace q103:=eq_true q103;(go_wp2_with (first|((with_reducible refine aAn (N:=4) rfl ?_);(try(refine aBi (by rfl) ?_;dsimp only));refine aAl ?hg (N:=4) ?hd (cs:=#[.int .i64 0,.int .i64 0]) (t:=57) ?hr ?_;(case hd=>rfl);(case hg=>rfl);(case hr=>exact aCp);intro a7 hg w26 hbox hb;have n_:=zA7 (aA3 (g:=aE) (o:=.cells #[.int .i64 aD,.slice (some bR) aC.length aG] 25 (0,0)) zz0 hb) (aA2 zz1 hb) hbox (aEg:w.heap.size≤a7) (aEg:w.heap.size≤a7) (aLx:aE≠a7) (aLw:a7≠aE);clear aA HB;obtain⟨aA,HB,bE,GW104,GE104,bW,b3⟩:=n_;clear hb hbox hg;have zC:=b3.out;have yM:=bW.out;have sL:=aC7 bE;have sK:=aC6 bE;have sD:=aA0 bE.out 0;have sC:=aA0 bE.out 1;have mL:=aC7 aA;have mK:=aC6 aA;have mH:=aA0 aA.out 0;have mG:=aA0 aA.out 1)));go_roundg k2;(case measure=>have:=HJ1.out;have:=HK2.out;omega);case rel=>exact⟨(wrap64 (cG+1)),zz6,H',⟨by have:=HJ1.out;have:=HK2.out;omega⟩,⟨aRe⟩,⟨aJ2⟩⟩
end Go.Proofs.Ytnbljcgdgblgoaa.P
end
section
namespace Go.Proofs.Ytnbljcgdgblgoaa.Cf
open Go.RowKit Go.Proofs.YtnbljcgdgblgoaaW.PrintWords
def Ep {α:Type} (g:Nat→Option α) (Q:α→Prop):Prop:=∃ r,Q r∧∃ K,∀ k,K≤k→g k=some r
theorem Ep.now {α:Type} {Q:α→Prop} {r:α} (h:Q r):Ep (fun _=>some r) Q:=⟨r,h,0,fun _ _=>rfl⟩
theorem Ep.mono {α:Type} {g:Nat→Option α} {P Q:α→Prop} (h:Ep g P) (hpq:∀ r,P r→Q r):Ep g Q:=by
 obtain⟨r,hr,K,hK⟩:=h
 exact⟨r,hpq r hr,K,hK⟩
theorem Ep.step {α:Type} {g f:Nat→Option α} {Q:α→Prop} (h:∀ k,g (k+1)=f k) (k:Ep f Q):Ep g Q:=by
 obtain⟨r,hr,K,hK⟩:=k
 refine⟨r,hr,K+1,fun k hk=>?_⟩
 obtain⟨m,rfl⟩:∃ m,k=m+1:=⟨k-1,by omega⟩
 rw[h m]
 exact hK m (by omega)
theorem Ep.up {α:Type} {g:Nat→Option α} {Q:α→Prop} (h:Ep (fun k=>g (k+1)) Q):Ep g Q:=Ep.step (fun _=>rfl) h
theorem Ep.congr {α:Type} {g f:Nat→Option α} {Q:α→Prop} (h:∀ k,g k=f k) (k:Ep f Q):Ep g Q:=by
 obtain⟨r,hr,K,hK⟩:=k
 exact⟨r,hr,K,fun k hk=>(h k).trans (hK k hk)⟩
theorem Ep.bind {α β:Type} {g:Nat→Option α} {f:Nat→α→Option β} {P:α→Prop} {Q:β→Prop} (h:Ep g P) (k:∀ a,P a→Ep (fun n=>f n a) Q):Ep (fun n=>(g n).bind (f n)) Q:=by
 obtain⟨r,hr,K,hK⟩:=h
 obtain⟨q,hq,L,hL⟩:=k r hr
 refine⟨q,hq,max K L,fun k hk=>?_⟩
 show (g k).bind (f k)=some q
 rw[hK k (by omega)]
 exact hL k (by omega)
theorem Ep.bind0 {α β:Type} {g:Option α} {f:Nat→α→Option β} {a:α} {Q:β→Prop} (h:g=some a) (k:Ep (fun n=>f n a) Q):Ep (fun n=>g.bind (f n)) Q:=by
 subst h
 exact k
theorem Ep.ite {α:Type} {c:Prop} [Decidable c] {f g:Nat→Option α} {Q:α→Prop} (h:c→Ep f Q) (k:¬ c→Ep g Q):Ep (fun n=>if c then f n else g n) Q:=by
 by_cases hc:c
 ·simp only[hc,if_true]
  exact h hc
 ·simp only[hc,if_false]
  exact k hc
theorem Ep.pos {α:Type} {c:Prop} [Decidable c] {f g:Nat→Option α} {Q:α→Prop} (hc:c) (h:Ep f Q):Ep (fun n=>if c then f n else g n) Q:=Ep.ite (fun _=>h) (fun k=>absurd hc k)
theorem Ep.neg {α:Type} {c:Prop} [Decidable c] {f g:Nat→Option α} {Q:α→Prop} (hc:¬ c) (h:Ep g Q):Ep (fun n=>if c then f n else g n) Q:=Ep.ite (fun k=>absurd k hc) (fun _=>h)
theorem Ep.rounds {α:Type} {g:Nat→Option α} {r:α} (h:Ep g (·=r)):∃ k,g k=some r:=by
 obtain⟨q,rfl,K,hK⟩:=h
 exact⟨K,hK K (Nat.le_refl _)⟩
def Wf (k:IntKind) (x:Int):Prop:=(Lit.int k x).wf=true
theorem Wf.i64 {x:Int} (h:Wf .i64 x):-9223372036854775808≤x∧x≤9223372036854775807:=by
 simpa[Wf,Lit.wf,IntKind.min,IntKind.max,IntKind.signed,IntKind.bits]using h
theorem Wf.u8 {x:Int} (h:Wf .u8 x):0≤x∧x≤255:=by
 simpa[Wf,Lit.wf,IntKind.min,IntKind.max,IntKind.signed,IntKind.bits]using h
def SL {α:Type} (Q:α→Prop) (l:List α):Prop:=l.length≤9223372036854775807∧∀ x∈l,Q x
theorem aC5 {x:Int} (h0:-9223372036854775808≤x) (h1:x≤9223372036854775807):wrap64 x=x:=by
 unfold wrap64
 omega
theorem aEh (xs:List Int) (i:Nat):rd xs (i:Int)=xs.getD i 0:=by simp[rd]
theorem aEk {xs:List Int} {i:Nat} (h:i<xs.length):rd xs (i:Int)=xs[i]:=by simp[rd,List.getD,h]
end Go.Proofs.Ytnbljcgdgblgoaa.Cf
end
section
namespace Go.Proofs.Ytnbljcgdgblgoaa.Cf
def Adj (es:List E) (a b:Int):Prop:=∃ e∈es,(e.f0=a∧e.f1=b)∨(e.f0=b∧e.f1=a)
theorem Adj.symm {es:List E} {a b:Int} (h:Adj es a b):Adj es b a:=by
 obtain⟨e,he,h⟩:=h
 exact⟨e,he,h.symm⟩
inductive aFe (es:List E) (a:Int):Int→Prop
 | refl:aFe es a a
 | tail {b c:Int}:aFe es a b→Adj es b c→aFe es a c
theorem aFe.trans {es:List E} {a b c:Int} (h:aFe es a b) (k:aFe es b c):aFe es a c:=by
 induction k with
 | refl=>exact h
 | tail _ hadj ih=>exact ih.tail hadj
theorem aFe.one {es:List E} {a b:Int} (h:Adj es a b):aFe es a b:=aFe.refl.tail h
theorem aFe.symm {es:List E} {a b:Int} (h:aFe es a b):aFe es b a:=by
 induction h with
 | refl=>exact .refl
 | tail _ hadj ih=>exact(aFe.one hadj.symm).trans ih
theorem aFe.sub {es fs:List E} (hs:∀ e∈es,e∈fs) {a b:Int} (h:aFe es a b):aFe fs a b:=by
 induction h with
 | refl=>exact .refl
 | tail _ hadj ih =>
  obtain⟨e,he,hx⟩:=hadj
  exact ih.tail ⟨e,hs e he,hx⟩
theorem aFe.closed {es:List E} {S:Int→Prop} (hS:∀ a b,S a→Adj es a b→S b) {a b:Int} (h:aFe es a b) (ha:S a):S b:=by
 induction h with
 | refl=>exact ha
 | tail _ hadj ih=>exact hS _ _ ih hadj
def EOk (n:Int) (e:E):Prop:=0≤e.f0∧e.f0<e.f1∧e.f1<n
instance decEOk (n:Int) (e:E):Decidable (EOk n e):=by unfold EOk;infer_instance
def EsOk (n:Int) (es:List E):Prop:=1≤n∧n≤6∧es.length≤12∧∀ e∈es,EOk n e
instance decEsOk (n:Int) (es:List E):Decidable (EsOk n es):=by unfold EsOk;infer_instance
def leE (a b:E):Prop:=a.f0<b.f0∨(a.f0=b.f0∧a.f1≤b.f1)
instance decLeE (a b:E):Decidable (leE a b):=by unfold leE;infer_instance
def Sorted (es:List E):Prop:=∀ i,(h:i+1<es.length)→leE es[i] es[i+1]
def aEo (n:Int) (es:List E):Prop:=∀ v,0≤v→v<n→aFe es 0 v
def GOk (n:Int) (es:List E):Prop:=EsOk n es∧Sorted es∧aEo n es
instance decSorted (es:List E):Decidable (Sorted es):=decidable_of_iff (∀ i,(h:i<es.length-1)→leE (es[i]'(by omega)) (es[i+1]'(by omega))) ⟨fun h i hi=>h i (by omega),fun h i hi=>h i (by omega)⟩
theorem EsOk.adj {n:Int} {es:List E} (h:∀ e∈es,EOk n e) {a b:Int} (hab:Adj es a b):0≤b∧b<n:=by
 obtain⟨e,he,hx⟩:=hab
 have:=h e he
 unfold EOk at this
 omega
def aGn (m:Nat) (e:E):Nat:=if m.testBit e.f0.toNat||m.testBit e.f1.toNat then m ||| (2^e.f0.toNat ||| 2^e.f1.toNat) else m
def aEj (es:List E) (m:Nat):Nat:=es.foldl aGn m
def aF6 (es:List E):Nat→Nat→Nat
 | 0,m=>m
 | k+1,m=>aF6 es k (aEj es m)
theorem aFt {m:Nat} {e:E} {i:Nat}:(aGn m e).testBit i=(m.testBit i||((m.testBit e.f0.toNat||m.testBit e.f1.toNat)&&(i==e.f0.toNat||i==e.f1.toNat))):=by
 unfold aGn
 by_cases h:(m.testBit e.f0.toNat||m.testBit e.f1.toNat)=true
 ·rw[if_pos h,h]
  simp only[Nat.testBit_or,Nat.testBit_two_pow,Bool.true_and]
  congr 1
  rw[Bool.eq_iff_iff]
  simp only[Bool.or_eq_true,decide_eq_true_eq,beq_iff_eq]
  omega
 ·rw[if_neg h]
  simp only[Bool.not_eq_true]at h
  rw[h]
  simp
theorem aKh {m:Nat} {e:E} {i:Nat} (h:m.testBit i=true):(aGn m e).testBit i=true:=by rw[aFt,h];rfl
theorem aG9 (es:List E):∀ {m:Nat} {i:Nat},m.testBit i=true→(aEj es m).testBit i=true:=by
 induction es with
 | nil=>intro m i h;exact h
 | cons e r ih=>intro m i h;exact ih (aKh h)
theorem aJ6 (es:List E):∀ (k:Nat) {m:Nat} {i:Nat},m.testBit i=true→(aF6 es k m).testBit i=true
 | 0,_,_,h=>h
 | k+1,_,_,h=>aJ6 es k (aG9 es h)
def MOk (es:List E) (n:Int) (m:Nat):Prop:=∀ i:Nat,m.testBit i=true→(i:Int)<n∧aFe es 0 i
theorem aTv {es:List E} {n:Int} {m:Nat} {e:E} (he:e∈es) (hk:EOk n e) (h:MOk es n m):MOk es n (aGn m e):=by
 intro i hi
 rw[aFt]at hi
 simp only[Bool.or_eq_true,Bool.and_eq_true,beq_iff_eq]at hi
 unfold EOk at hk
 have e0:((e.f0.toNat:Nat):Int)=e.f0:=by omega
 have e1:((e.f1.toNat:Nat):Int)=e.f1:=by omega
 rcases hi with hi|⟨hm,hi⟩
 ·exact h i hi
 ·have key:aFe es 0 e.f0∧aFe es 0 e.f1:=by
   rcases hm with hm|hm
   ·have:=(h _ hm).2
    rw[e0]at this
    exact⟨this,this.tail ⟨e,he,.inl ⟨rfl,rfl⟩⟩⟩
   ·have:=(h _ hm).2
    rw[e1]at this
    exact⟨this.tail ⟨e,he,.inr ⟨rfl,rfl⟩⟩,this⟩
  rcases hi with hi|hi
  ·subst hi
   rw[e0]
   exact⟨by omega,key.1⟩
  ·subst hi
   rw[e1]
   exact⟨by omega,key.2⟩
theorem aNd {es:List E} {n:Int} (hes:∀ e∈es,EOk n e):∀ (fs:List E),(∀ e∈fs,e∈es)→∀ {m:Nat},MOk es n m→MOk es n (aEj fs m):=by
 intro fs
 induction fs with
 | nil=>intro _ m h;exact h
 | cons e r ih =>
  intro hs m h
  have he:=hs e (List.mem_cons_self)
  exact ih (fun x hx=>hs x (List.mem_cons_of_mem _ hx)) (aTv he (hes e he) h)
theorem aN7 {es:List E} {n:Int} (hes:∀ e∈es,EOk n e):∀ (k:Nat) {m:Nat},MOk es n m→MOk es n (aF6 es k m)
 | 0,_,h=>h
 | k+1,_,h=>aN7 hes k (aNd hes es (fun _ h=>h) h)
def cnt (n:Nat) (m:Nat):Nat:=(List.range n).countP (m.testBit ·)
theorem aXk (n m:Nat):cnt n m≤n:=by
 unfold cnt
 have:=List.countP_le_length (p:=fun i=>m.testBit i) (l:=List.range n)
 simpa using this
theorem aIm {α:Type} {p q:α→Bool}:∀ {l:List α},(∀ x∈l,p x=true→q x=true)→(∃ x∈l,p x=false∧q x=true)→l.countP p<l.countP q
 | [],_,h=>by obtain⟨x,hx,_⟩:=h;cases hx
 | y::r,hpq,h=>by
  have hle:r.countP p≤r.countP q:=List.countP_mono_left (fun x hx=>hpq x (List.mem_cons_of_mem _ hx))
  simp only[List.countP_cons]
  by_cases hy:p y=false∧q y=true
  ·rw[hy.1,hy.2]
   simp
   omega
  ·have hr:r.countP p<r.countP q:=by
    apply aIm (fun x hx=>hpq x (List.mem_cons_of_mem _ hx))
    obtain⟨x,hx,h1⟩:=h
    rcases List.mem_cons.1 hx with rfl|hx
    ·exact absurd h1 hy
    ·exact⟨x,hx,h1⟩
   have h2:=hpq y List.mem_cons_self
   by_cases hp:p y=true
   ·rw[hp,h2 hp]
    simp
    omega
   ·simp only[hp,if_false,Bool.not_eq_true]at *
    simp
    split<;>omega
theorem aXj {n m m':Nat} (h:∀ i,m.testBit i=true→m'.testBit i=true) (hx:∃ i,i<n∧m.testBit i=false∧m'.testBit i=true):cnt n m<cnt n m':=by
 obtain⟨i,hi,h1⟩:=hx
 exact aIm (fun x _=>h x) ⟨i,List.mem_range.2 hi,h1⟩
theorem aIw {es:List E}:∀ (fs:List E) {m:Nat},(∀ i,(aEj fs m).testBit i=true→m.testBit i=true)→∀ e∈fs,m.testBit e.f0.toNat=m.testBit e.f1.toNat:=by
 intro fs
 induction fs with
 | nil=>intro m _ e he;cases he
 | cons a r ih =>
  intro m h e he
  have hst:∀ i,(aGn m a).testBit i=true→m.testBit i=true:=fun i hi=>h i (aG9 r hi)
  have heq:aGn m a=m:=by
   apply Nat.eq_of_testBit_eq
   intro i
   rw[Bool.eq_iff_iff]
   exact⟨hst i,aKh⟩
  rcases List.mem_cons.1 he with rfl|he
  ·have h0:=hst e.f0.toNat
   have h1:=hst e.f1.toNat
   rw[aFt]at h0 h1
   simp only[beq_self_eq_true,Bool.true_or,Bool.or_true,Bool.and_true,Bool.or_eq_true]at h0 h1
   rw[Bool.eq_iff_iff]
   exact⟨fun hx=>h1 (.inr (.inl hx)),fun hx=>h0 (.inr (.inr hx))⟩
  ·have:aEj (a::r) m=aEj r m:=by show aEj r (aGn m a)=_;rw[heq]
   exact ih (fun i hi=>h i (by rw[this];exact hi)) e he
theorem aK8 {es:List E} {n:Int} (hes:∀ e∈es,EOk n e) {m:Nat} (h:∀ i,(aEj es m).testBit i=true→m.testBit i=true) (h0:m.testBit 0=true) (i:Nat) (hi:aFe es 0 i):m.testBit i=true:=by
 have hf:=aIw (es:=es) es h
 have key:∀ v:Int,aFe es 0 v→0≤v∧m.testBit v.toNat=true:=by
  intro v hv
  refine hv.closed (S:=fun v=>0≤v∧m.testBit v.toNat=true) ?_ ⟨by omega,h0⟩
  rintro a b ⟨ha,hb⟩ ⟨e,he,hx⟩
  have hk:=hes e he
  unfold EOk at hk
  rcases hx with ⟨h1,h2⟩|⟨h1,h2⟩
  ·subst h1;subst h2
   exact⟨by omega,by rw[← hf e he];exact hb⟩
  ·subst h1;subst h2
   exact⟨by omega,by rw[hf e he];exact hb⟩
 have:=(key i hi).2
 simpa using this
theorem aJ7 {es:List E} {n:Nat} (hes:∀ e∈es,EOk n e):∀ (k:Nat) {m:Nat},MOk es n m→m.testBit 0=true →
  (∀ i:Nat,aFe es 0 i→(aF6 es k m).testBit i=true)∨k+cnt n m≤cnt n (aF6 es k m)
 | 0,m,_,_=>.inr (by simp[aF6])
 | k+1,m,hm,h0=>by
  by_cases hfix:∀ i,(aEj es m).testBit i=true→m.testBit i=true
  ·left
   intro i hi
   exact aJ6 es (k+1) (aK8 hes hfix h0 i hi)
  ·obtain⟨i,hi⟩:=Classical.not_forall.1 hfix
   have hi1:(aEj es m).testBit i=true:=Classical.byContradiction fun hc=>hi (fun x=>absurd x hc)
   have hi2:m.testBit i=false:=by
    cases hb:m.testBit i with
    | false=>rfl
    | true=>exact absurd (fun _=>hb) hi
   have hok:=aNd hes es (fun _ h=>h) hm
   have hlt:cnt n m<cnt n (aEj es m):=aXj (fun j hj=>aG9 es hj) ⟨i,by have:=(hok i hi1).1;omega,hi2,hi1⟩
   rcases aJ7 hes k hok (aG9 es h0) with h|h
   ·exact .inl h
   ·right
    show k+1+_≤cnt n (aF6 es k (aEj es m))
    omega
theorem aSn {n m:Nat} (h:n≤cnt n m):∀ i,i<n→m.testBit i=true:=by
 intro i hi
 apply Classical.byContradiction
 intro hc
 have hc':m.testBit i=false:=by simpa using hc
 have:cnt n m<cnt n (2^n-1):=by
  refine aIm (fun x hx _=>?_) ⟨i,List.mem_range.2 hi,hc',?_⟩
  ·rw[Nat.testBit_two_pow_sub_one];simpa using hx
  ·rw[Nat.testBit_two_pow_sub_one];simpa using hi
 have:=aXk n (2^n-1)
 omega
theorem aFs {es:List E} {n:Nat} (h1:1≤n) (hes:∀ e∈es,EOk n e):aF6 es n 1=2^n-1↔aEo n es:=by
 have hm1:MOk es n 1:=by
  intro i hi
  have:i=0:=by simpa[Nat.testBit_one_eq_true_iff_self_eq_zero]using hi
  subst this
  exact⟨by omega,.refl⟩
 have h0:(1:Nat).testBit 0=true:=by decide
 have hok:=aN7 hes n hm1
 constructor
 ·intro h v hv0 hvn
  have:=hok v.toNat (by rw[h,Nat.testBit_two_pow_sub_one];simp;omega)
  have e:((v.toNat:Nat):Int)=v:=by omega
  rw[e]at this
  exact this.2
 ·intro hj
  have hall:∀ i,i<n→(aF6 es n 1).testBit i=true:=by
   rcases aJ7 hes n hm1 h0 with h|h
   ·exact fun i hi=>h i (hj i (by omega) (by omega))
   ·have:n≤cnt n (aF6 es n 1):=by omega
    exact aSn this
  apply Nat.eq_of_testBit_eq
  intro i
  rw[Nat.testBit_two_pow_sub_one,Bool.eq_iff_iff]
  simp only[decide_eq_true_eq]
  refine⟨fun h=>?_,fun h=>hall i h⟩
  have:=(hok i h).1
  omega
def gOk (n:Int) (es:List E):Bool:=decide (EsOk n es)&&(decide (Sorted es)&&decide (aF6 es n.toNat 1=2^n.toNat-1))
theorem gOk_iff {n:Int} {es:List E}:gOk n es=true↔GOk n es:=by
 unfold gOk GOk
 simp only[Bool.and_eq_true,decide_eq_true_eq]
 constructor
 ·rintro⟨h1,h2,h3⟩
  have h:=h1
  unfold EsOk at h
  obtain⟨m,rfl⟩:=Int.eq_ofNat_of_zero_le (a:=n) (by omega)
  exact⟨h1,h2,(aFs (n:=m) (by omega) h.2.2.2).1 h3⟩
 ·rintro⟨h1,h2,h3⟩
  have h:=h1
  unfold EsOk at h
  obtain⟨m,rfl⟩:=Int.eq_ofNat_of_zero_le (a:=n) (by omega)
  exact⟨h1,h2,(aFs (n:=m) (by omega) h.2.2.2).2 h3⟩
def QOk (es:List E) (n:Int) (q:List Int):Prop:=q.Nodup∧∀ v∈q,(0≤v∧v<n)∧aFe es 0 v
theorem aEc:∀ (n:Nat) (l:List Int),l.Nodup→(∀ v∈l,0≤v∧v<n)→l.length≤n
 | 0,l,_,hv=>by
  cases l with
  | nil=>exact Nat.le_refl _
  | cons a r=>have:=hv a List.mem_cons_self;omega
 | n+1,l,hl,hv=>by
  by_cases hm:(n:Int)∈l
  ·have h1:=aEc n (l.erase n) (hl.erase _) (fun v hx=>by
    have h2:=(hl.mem_erase_iff).1 hx
    have:=hv v h2.2
    have:=h2.1
    omega)
   rw[List.length_erase_of_mem hm]at h1
   omega
  ·have:=aEc n l hl (fun v hx=>by
    have:=hv v hx
    have:v≠n:=by rintro rfl;exact hm hx
    omega)
   omega
theorem aIh:∀ (n:Nat) (l:List Int),(∀ i:Nat,i<n→(i:Int)∈l)→n≤l.length
 | 0,_,_=>Nat.zero_le _
 | n+1,l,h=>by
  have hm:=h n (by omega)
  have:=aIh n (l.erase n) (fun i hi=>(List.mem_erase_of_ne (by omega)).2 (h i (by omega)))
  rw[List.length_erase_of_mem hm]at this
  have:0<l.length:=List.length_pos_of_mem hm
  omega
theorem aKw {es:List E} {n:Nat} (h1:1≤n) {q:List Int} (hq:QOk es n q) (h0:(0:Int)∈q) (hc:∀ a∈q,∀ b,Adj es a b→b∈q):q.length=n↔aEo n es:=by
 constructor
 ·intro hl v hv0 hvn
  have:v∈q:=by
   apply Classical.byContradiction
   intro hv
   have:=aEc n (v::q) (List.nodup_cons.2 ⟨hv,hq.1⟩) (fun x hx=>by
    rcases List.mem_cons.1 hx with rfl|hx
    ·exact⟨hv0,hvn⟩
    ·exact(hq.2 x hx).1)
   simp at this
   omega
  exact(hq.2 v this).2
 ·intro hj
  have:=aEc n q hq.1 (fun x hx=>(hq.2 x hx).1)
  have:=aIh n q (fun i hi=>(hj i (by omega) (by omega)).closed (S:=fun x=>x∈q) (fun a b ha hab=>hc a ha b hab) h0)
  omega
theorem QOk.push {es:List E} {n:Int} {q:List Int} (h:QOk es n q) {v:Int} (hv:v∉q) (h0:0≤v∧v<n) (hc:aFe es 0 v):QOk es n (q++[v]):=by
 refine⟨?_,fun x hx=>?_⟩
 ·rw[List.nodup_append]
  exact⟨h.1,by simp,fun a ha b hb=>by
   rw[List.mem_singleton.1 hb]
   rintro rfl
   exact hv ha⟩
 ·rcases List.mem_append.1 hx with hx|hx
  ·exact h.2 x hx
  ·rw[List.mem_singleton.1 hx]
   exact⟨h0,hc⟩
end Go.Proofs.Ytnbljcgdgblgoaa.Cf
end
section
namespace Go.Proofs.Ytnbljcgdgblgoaa.P
open Go.RowKit Go.Proofs.YtnbljcgdgblgoaaW.PrintWords Go.Proofs.YtnbljcgdgblgoaaW.PrintLast Go.Proofs.YtnbljcgdgblgoaaW.PrintMore
attribute [local go_sem] aCt aCr aDb aDa aCa aC9 aCs aCq
def aDe.l0:Nat→List Int→List Int→Int→Option (Bool)
 | 0,_,_,_=>none
 | k+1,x0,x1,x5=>if x5<(x0.length:Int) then(if 0≤x5 then(if x5<(x1.length:Int) then(if(rd x0 x5)=(rd x1 x5) then(aDe.l0 k x0 x1 (wrap64 (x5+1))) else(some false)) else(none)) else(none)) else(some true)
def aDe.f (k:Nat) (l0:List Int) (l1:List Int):Option (Bool):=if(l0.length:Int)=(l1.length:Int) then(aDe.l0 k l0 l1 0) else(some false)
theorem aDe.mono_l:∀ k,(∀ y0 y1 y2,LeO (aDe.l0 k y0 y1 y2) (aDe.l0 (k+1) y0 y1 y2))
 | 0=>fun _ _ _ r h=>by simp[aDe.l0]at h
 | k+1=>by
  have ih0:=aDe.mono_l k
  ·intro y0 y1 y2
   unfold aDe.l0
   exact zm0
theorem aDe.mono:∀ a0 a1 k,LeO (aDe.f k a0 a1) (aDe.f (k+1) a0 a1):=by
 intro a0 a1 k;have ih0:=aDe.mono_l k;unfold aDe.f;exact zm0
def aD2.l0:Nat→List Int→Int→Int→Option (Int×List Int)
 | 0,_,_,_=>none
 | k+1,x0,x1,x5=>if x5<(x0.length:Int) then(if 0≤x5 then(aD2.l0 k (x0.set (x5:Int).toNat x1) (wrap64 (x1+1)) (wrap64 (x5+1))) else(none)) else(some (x1,x0))
def aD2.f (k:Nat) (l0:List Int) (a1:Int):Option (Int×List Int):=aD2.l0 k l0 a1 0
theorem aD2.mono_l:∀ k,(∀ y0 y1 y2,LeO (aD2.l0 k y0 y1 y2) (aD2.l0 (k+1) y0 y1 y2))
 | 0=>fun _ _ _ r h=>by simp[aD2.l0]at h
 | k+1=>by
  have ih0:=aD2.mono_l k
  ·intro y0 y1 y2
   unfold aD2.l0
   exact zm0
theorem aD2.mono:∀ a0 a1 k,LeO (aD2.f k a0 a1) (aD2.f (k+1) a0 a1):=by
 intro a0 a1 k;have ih0:=aD2.mono_l k;unfold aD2.f;exact zm0
def aD3.l0:Nat→List Int→Int→Int→Option (Int)
 | 0,_,_,_=>none
 | k+1,x0,x1,x5=>if x5<(x0.length:Int) then(if 0≤x5 then(if(rd x0 x5)=x1 then(aD3.l0 k x0 (wrap64 (x1+1)) (wrap64 (x5+1))) else(some (-1))) else(none)) else(some x1)
def aD3.f (k:Nat) (l0:List Int) (a1:Int):Option (Int):=aD3.l0 k l0 a1 0
theorem aD3.mono_l:∀ k,(∀ y0 y1 y2,LeO (aD3.l0 k y0 y1 y2) (aD3.l0 (k+1) y0 y1 y2))
 | 0=>fun _ _ _ r h=>by simp[aD3.l0]at h
 | k+1=>by
  have ih0:=aD3.mono_l k
  ·intro y0 y1 y2
   unfold aD3.l0
   exact zm0
theorem aD3.mono:∀ a0 a1 k,LeO (aD3.f k a0 a1) (aD3.f (k+1) a0 a1):=by
 intro a0 a1 k;have ih0:=aD3.mono_l k;unfold aD3.f;exact zm0
end Go.Proofs.Ytnbljcgdgblgoaa.P
end
section
namespace Go.Proofs.Ytnbljcgdgblgoaa.Cf
open Go.RowKit Go.Proofs.YtnbljcgdgblgoaaW.PrintWords Go.Proofs.Ytnbljcgdgblgoaa.P
theorem aBw {i:Nat} (h:i<4611686018427387904):wrap64 ((i:Int)+1)=((i+1:Nat):Int):=by
 rw[aC5 (by omega) (by omega)]
 omega
theorem aEb {es:List E} {i:Nat} (h:i<es.length):aA4 es (i:Int)=es[i]:=by simp[aA4,List.getD,h]
theorem aFi (a b c:Int):aBx.f a b c=some (decide (b≤a∧a≤c)):=by
 unfold aBx.f
 by_cases h:a≥b
 ·rw[if_pos h]
  have:(b≤a∧a≤c)↔a≤c:=⟨fun x=>x.2,fun x=>⟨h,x⟩⟩
  simp only[this]
 ·rw[if_neg h]
  have:¬ (b≤a∧a≤c):=fun x=>h x.1
  simp only[this,decide_false]
theorem aF3 {es:List E} {P:E→Prop} {i:Nat} (h:i<es.length):(∀ e∈es.drop i,P e)↔(P es[i]∧∀ e∈es.drop (i+1),P e):=by
 rw[List.drop_eq_getElem_cons h]
 simp only[List.mem_cons,forall_eq_or_imp]
theorem aKr (n:Int) (hn:1≤n∧n≤6) (es:List E) (hl:es.length≤12):∀ (d i:Nat),i+d=es.length→Ep (fun k=>aB7.l0 k es (es.length:Int) (i:Int) n es) (·=decide (∀ e∈es.drop i,EOk n e)):=by
 intro d
 induction d with
 | zero =>
  intro i hi
  refine Ep.up ?_
  simp only[aB7.l0]
  refine Ep.neg (by omega) (Ep.now ?_)
  rw[List.drop_of_length_le (by omega)]
  simp
 | succ d ih =>
  intro i hi
  have hlt:i<es.length:=by omega
  refine Ep.up ?_
  simp only[aB7.l0]
  refine Ep.pos (by omega) (Ep.pos (by omega) (Ep.pos (by omega) ?_))
  rw[aEb hlt,aC5 (x:=n-1) (by omega) (by omega)]
  refine Ep.bind0 (aFi _ _ _) ?_
  refine Ep.ite (fun h0=>?_) (fun h0=>Ep.now ?_)
  ·have h0':0≤es[i].f0∧es[i].f0≤n-1:=by simpa using h0
   rw[aC5 (x:=es[i].f0+1) (by omega) (by omega)]
   refine Ep.bind0 (aFi _ _ _) ?_
   refine Ep.ite (fun h1=>?_) (fun h1=>Ep.now ?_)
   ·have h1':es[i].f0+1≤es[i].f1∧es[i].f1≤n-1:=by simpa using h1
    rw[aBw (by omega)]
    refine(ih (i+1) (by omega)).mono ?_
    rintro _ rfl
    have:EOk n es[i]:=by unfold EOk;omega
    simp only[aF3 hlt,this,true_and]
   ·have h1':¬ (es[i].f0+1≤es[i].f1∧es[i].f1≤n-1):=by simpa using h1
    have:¬ EOk n es[i]:=by unfold EOk;omega
    simp only[aF3 hlt,this,false_and,decide_false]
  ·have h0':¬ (0≤es[i].f0∧es[i].f0≤n-1):=by simpa using h0
   have:¬ EOk n es[i]:=by unfold EOk;omega
   simp only[aF3 hlt,this,false_and,decide_false]
theorem aPq (n:Int) (es:List E):Ep (fun k=>aB7.f k n es) (·=decide (EsOk n es)):=by
 simp only[aB7.f]
 refine Ep.bind0 (aFi _ _ _) ?_
 refine Ep.ite (fun h0=>?_) (fun h0=>?_)
 ·have h0':1≤n∧n≤6:=by simpa using h0
  refine Ep.up ?_
  simp only[aB7.j0]
  refine Ep.ite (fun h1=>Ep.now ?_) (fun h1=>?_)
  ·have:¬ EsOk n es:=by
    have:(es.length:Int)>12:=by simpa using h1
    unfold EsOk
    omega
   simp[this]
  ·have hl:es.length≤12:=by
    have:¬ (es.length:Int)>12:=by simpa using h1
    omega
   refine(aKr n h0' es hl es.length 0 (by omega)).mono ?_
   rintro _ rfl
   rw[List.drop_zero]
   unfold EsOk
   simp only[h0'.1,h0'.2,hl,true_and]
 ·have h0':¬ (1≤n∧n≤6):=by simpa using h0
  refine Ep.up ?_
  simp only[aB7.j0]
  refine Ep.pos (by simp) (Ep.now ?_)
  have:¬ EsOk n es:=by
   unfold EsOk
   omega
  simp[this]
theorem aOe (x:Int) (l:List Int) (hl:l.length≤1048576):∀ (d i:Nat),i+d=l.length→Ep (fun k=>aBc.l0 k x l (l.length:Int) (i:Int)) (·=decide (x∈l.drop i)):=by
 intro d
 induction d with
 | zero =>
  intro i hi
  refine Ep.up ?_
  simp only[aBc.l0]
  refine Ep.neg (by omega) (Ep.now ?_)
  rw[List.drop_of_length_le (by omega)]
  simp
 | succ d ih =>
  intro i hi
  have hlt:i<l.length:=by omega
  refine Ep.up ?_
  simp only[aBc.l0]
  refine Ep.pos (by omega) (Ep.pos (by omega) (Ep.pos (by omega) ?_))
  rw[aEk hlt,aBw (by omega),List.drop_eq_getElem_cons hlt]
  refine Ep.ite (fun h=>Ep.now ?_) (fun h=>?_)
  ·simp only[List.mem_cons,h,true_or,decide_true]
  ·refine(ih (i+1) (by omega)).mono ?_
   rintro _ rfl
   have:¬ x=l[i]:=fun e=>h e.symm
   simp only[List.mem_cons,this,false_or]
theorem aPp (l:List Int) (x:Int) (hl:l.length≤1048576):Ep (fun k=>aBc.f k l x) (·=decide (x∈l)):=by
 have:=aOe x l hl l.length 0 (by omega)
 simp only[aBc.f]
 exact this
structure aLu (es:List E) (n:Nat) (q:List Int) (a i:Nat) (u:Int):Prop where
 ok:QOk es n q
 zero:(0:Int)∈q
 done:∀ x∈q.take a,∀ b,Adj es x b→b∈q
 at_:q[a]? = some u
 part:∀ e∈es.take i,(e.f0=u→e.f1∈q)∧(e.f1=u→e.f0∈q)
theorem aLu.lt {es:List E} {n:Nat} {q:List Int} {a i:Nat} {u:Int} (h:aLu es n q a i u):a<q.length:=by
 apply Classical.byContradiction
 intro hc
 have:=h.at_
 rw[List.getElem?_eq_none (by omega)]at this
 cases this
theorem aLu.len {es:List E} {n:Nat} {q:List Int} {a i:Nat} {u:Int} (h:aLu es n q a i u):q.length≤n:=aEc n q h.ok.1 (fun v hv=>(h.ok.2 v hv).1)
theorem aLu.rd {es:List E} {n:Nat} {q:List Int} {a i:Nat} {u:Int} (h:aLu es n q a i u):rd q (a:Int)=u:=by
 rw[aEh,List.getD_eq_getElem?_getD,h.at_]
 rfl
theorem aLu.push {es:List E} {n:Nat} {q:List Int} {a i:Nat} {u v:Int} (hes:∀ e∈es,EOk n e) (h:aLu es n q a i u) (hv:v∉q) (hadj:Adj es u v):aLu es n (q++[v]) a i u where
 ok:=by
  have hu:u∈q:=List.mem_of_getElem? h.at_
  exact h.ok.push hv (EsOk.adj hes hadj) ((h.ok.2 u hu).2.tail hadj)
 zero:=List.mem_append_left _ h.zero
 done:=fun x hx b hb=>by
  rw[List.take_append_of_le_length (by have:=h.lt;omega)]at hx
  exact List.mem_append_left _ (h.done x hx b hb)
 at_:=by rw[List.getElem?_append_left h.lt];exact h.at_
 part:=fun e he=>⟨fun x=>List.mem_append_left _ ((h.part e he).1 x),fun x=>List.mem_append_left _ ((h.part e he).2 x)⟩
theorem aLu.next {es:List E} {n:Nat} {q:List Int} {a i:Nat} {u:Int} (h:aLu es n q a i u) (hi:i<es.length) (h0:es[i].f0=u→es[i].f1∈q) (h1:es[i].f1=u→es[i].f0∈q):aLu es n q a (i+1) u where
 ok:=h.ok
 zero:=h.zero
 done:=h.done
 at_:=h.at_
 part:=fun e he=>by
  rw[List.take_succ_eq_append_getElem hi]at he
  rcases List.mem_append.1 he with he|he
  ·exact h.part e he
  ·rw[List.mem_singleton.1 he]
   exact⟨h0,h1⟩
theorem aKl (n:Nat) (hn:n≤6) (es:List E) (hl:es.length≤12) (hes:∀ e∈es,EOk n e) (a:Nat) (u:Int) {Q:List Int→Prop}
  (hk:∀ q,aLu es n q a es.length u→Ep (fun k=>aAo.l0 k q ((a+1:Nat):Int) (n:Int) es) Q) :
  ∀ (d i:Nat) (q:List Int),i+d=es.length→aLu es n q a i u→Ep (fun k=>aAo.l1 k q (a:Int) es (es.length:Int) (i:Int) (n:Int) es) Q:=by
 intro d
 induction d with
 | zero =>
  intro i q hi hb
  refine Ep.up ?_
  simp only[aAo.l1]
  refine Ep.neg (by omega) ?_
  have:=hb.lt
  have:=hb.len
  rw[aBw (by omega)]
  have e:i=es.length:=by omega
  subst e
  exact hk q hb
 | succ d ih =>
  intro i q hi hb
  have hlt:i<es.length:=by omega
  have hal:=hb.lt
  have hql:=hb.len
  have he:=hes es[i] (List.getElem_mem hlt)
  have heok:=he
  unfold EOk at he
  have hadj:Adj es es[i].f0 es[i].f1:=⟨es[i],List.getElem_mem hlt,.inl ⟨rfl,rfl⟩⟩
  -- the second test, behind the first
  have second:∀ q',aLu es n q' a i u→(es[i].f0=u→es[i].f1∈q')→Ep (fun k=>if (0:Int)≤(a:Int) then(if(a:Int)<(q'.length:Int) then(if es[i].f1=rd q' (a:Int) then((aBc.f k q' es[i].f0).bind fun t=>(if t=true then(aAo.l1 k q' (a:Int) es (es.length:Int) (wrap64 ((i:Int)+1)) (n:Int) es) else(if q'.length<17592186044416 then(aAo.l1 k (q'++[es[i].f0]) (a:Int) es (es.length:Int) (wrap64 ((i:Int)+1)) (n:Int) es) else(none)))) else(aAo.l1 k q' (a:Int) es (es.length:Int) (wrap64 ((i:Int)+1)) (n:Int) es)) else(none)) else(none)) Q:=by
   intro q' hb' h0
   have hal':=hb'.lt
   have hql':=hb'.len
   refine Ep.pos (by omega) (Ep.pos (by omega) ?_)
   rw[hb'.rd,aBw (by omega)]
   refine Ep.ite (fun h1=>?_) (fun h1=>ih (i+1) q' (by omega) (hb'.next hlt h0 (fun x=>absurd x h1)))
   refine Ep.bind (aPp q' _ (by omega)) ?_
   rintro _ rfl
   refine Ep.ite (fun h2=>ih (i+1) q' (by omega) (hb'.next hlt h0 (fun _=>by simpa using h2))) (fun h2=>Ep.pos (by omega) ?_)
   have h2':es[i].f0∉q':=by simpa using h2
   have hb2:=hb'.push hes h2' (by rw[← h1];exact hadj.symm)
   exact ih (i+1) _ (by omega) (hb2.next hlt (fun x=>List.mem_append_left _ (h0 x)) (fun _=>by simp))
  refine Ep.up ?_
  simp only[aAo.l1]
  refine Ep.pos (by omega) (Ep.pos (by omega) (Ep.pos (by omega) (Ep.pos (by omega) (Ep.pos (by omega) ?_))))
  rw[aEb hlt,hb.rd]
  refine Ep.ite (fun h0=>?_) (fun h0=>?_)
  ·refine Ep.bind (aPp q _ (by omega)) ?_
   rintro _ rfl
   refine Ep.up ?_
   simp only[aAo.j2]
   refine Ep.ite (fun h1=>Ep.pos (by omega) ?_) (fun h1=>second q hb (fun _=>by simpa using h1))
   have h1':es[i].f1∉q:=by simpa using h1
   refine Ep.bind0 rfl ?_
   exact second _ (hb.push hes h1' (by rw[← h0];exact hadj)) (fun _=>by simp)
  ·refine Ep.up ?_
   simp only[aAo.j2]
   exact Ep.neg (by simp) (second q hb (fun x=>absurd x h0))
theorem aKm (n:Nat) (hn:1≤n∧n≤6) (es:List E) (hl:es.length≤12) (hes:∀ e∈es,EOk n e):∀ (d a:Nat) (q:List Int),a+d=7→a≤q.length→QOk es n q→(0:Int)∈q→(∀ x∈q.take a,∀ b,Adj es x b→b∈q) →
  Ep (fun k=>aAo.l0 k q (a:Int) (n:Int) es) (fun r=>(r.length=n↔aEo n es)∧r.length≤6):=by
 intro d
 induction d with
 | zero =>
  intro a q ha hq hok _ _
  have:=aEc n q hok.1 (fun v hv=>(hok.2 v hv).1)
  omega
 | succ d ih =>
  intro a q ha hq hok h0 hdone
  have hlen:=aEc n q hok.1 (fun v hv=>(hok.2 v hv).1)
  refine Ep.up ?_
  simp only[aAo.l0]
  refine Ep.ite (fun hlt=>?_) (fun hge=>Ep.now ?_)
  ·have hlt':a<q.length:=by omega
   have hb:aLu es n q a 0 q[a]:=⟨hok,h0,hdone,List.getElem?_eq_getElem hlt',fun e he=>by simp at he⟩
   refine aKl n hn.2 es hl hes a q[a] ?_ es.length 0 q (by omega) hb
   intro q' hb'
   refine ih (a+1) q' (by omega) (by have:=hb'.lt;omega) hb'.ok hb'.zero ?_
   intro x hx b hadj
   have hal:=hb'.lt
   rw[List.take_succ_eq_append_getElem hal]at hx
   rcases List.mem_append.1 hx with hx|hx
   ·exact hb'.done x hx b hadj
   ·have hx':x=q'[a]:=List.mem_singleton.1 hx
    have hu:q'[a]=q[a]:=by
     have:=hb'.at_
     rw[List.getElem?_eq_getElem hal]at this
     exact Option.some.inj this
    obtain⟨e,he,h⟩:=hadj
    have hp:=hb'.part e (by rw[List.take_of_length_le (Nat.le_refl _)];exact he)
    rcases h with ⟨x0,x1⟩|⟨x0,x1⟩
    ·rw[← x1]
     exact hp.1 (by rw[x0,hx',hu])
    ·rw[← x0]
     exact hp.2 (by rw[x1,hx',hu])
  ·have hfull:q.take a=q:=List.take_of_length_le (by omega)
   rw[hfull]at hdone
   exact⟨aKw hn.1 hok h0 hdone,by omega⟩
theorem aKn (n:Nat) (hn:1≤n∧n≤6) (es:List E) (hl:es.length≤12) (hes:∀ e∈es,EOk n e):Ep (fun k=>aAo.f k (n:Int) es) (fun r=>(r.length=n↔aEo n es)∧r.length≤6):=by
 simp only[aAo.f]
 refine aKm n hn es hl hes 7 0 [0] rfl (by simp) ⟨by simp,fun v hv=>?_⟩ (by simp) (fun x hx=>by simp at hx)
 rw[List.mem_singleton.1 hv]
 exact⟨⟨Int.le_refl _,by omega⟩,.refl⟩
def aSp (es:List E) (i:Nat):Prop:=∀ j,(h:j+1<es.length)→j+1<i→leE es[j] es[j+1]
theorem aKq (n:Nat) (es:List E) (hes:EsOk n es):∀ (d i:Nat),i+d=es.length→aSp es i→Ep (fun k=>aAi.l0 k es (es.length:Int) (i:Int) (n:Int) es) (·=gOk n es):=by
 have hes':=hes
 obtain⟨hn1,hn6,hl,hok⟩:=hes
 intro d
 induction d with
 | zero =>
  intro i hi hs
  refine Ep.up ?_
  simp only[aAi.l0]
  refine Ep.neg (by omega) ?_
  refine Ep.bind (aKn n (by omega) es hl hok) ?_
  rintro r ⟨hr,_⟩
  refine Ep.now ?_
  have hsorted:Sorted es:=fun j h=>hs j h (by omega)
  have hiff:GOk n es↔aEo n es:=⟨fun h=>h.2.2,fun h=>⟨hes',hsorted,h⟩⟩
  by_cases hj:aEo n es
  ·have:gOk n es=true:=gOk_iff.2 (hiff.2 hj)
   rw[this,hr.2 hj]
   simp
  ·have:gOk n es=false:=by
    cases hg:gOk n es with
    | false=>rfl
    | true=>exact absurd (hiff.1 (gOk_iff.1 hg)) hj
   rw[this]
   have hne:r.length≠n:=fun e=>hj (hr.1 e)
   simp
   omega
 | succ d ih =>
  intro i hi hs
  have hlt:i<es.length:=by omega
  have hbad:∀ j,i=j+1→(hj:j<es.length)→¬ leE es[j] es[i]→gOk n es=false:=by
   intro j hij hj hx
   subst hij
   cases hg:gOk n es with
   | false=>rfl
   | true=>exact absurd ((gOk_iff.1 hg).2.1 j hlt) hx
  have hgood:(∀ j,i=j+1→(hj:j<es.length)→leE es[j] es[i])→Ep (fun k=>aAi.l0 k es (es.length:Int) (wrap64 ((i:Int)+1)) (n:Int) es) (·=gOk n es):=by
   intro hx
   rw[aBw (by omega)]
   refine ih (i+1) (by omega) ?_
   intro j h hji
   by_cases e:j+1<i
   ·exact hs j h e
   ·have e':i=j+1:=by omega
    have:=hx j e' (by omega)
    subst e'
    exact this
  refine Ep.up ?_
  simp only[aAi.l0]
  refine Ep.pos (by omega) (Ep.pos (by omega) (Ep.pos (by omega) ?_))
  refine Ep.ite (fun hpos=>?_) (fun hz=>hgood (fun j hij _=>by omega))
  obtain⟨j,rfl⟩:∃ j,i=j+1:=⟨i-1,by omega⟩
  have hw:wrap64 (((j+1:Nat):Int)-1)=(j:Int):=by rw[aC5 (by omega) (by omega)];omega
  rw[hw,aEb hlt,aEb (show j<es.length by omega)]
  refine Ep.pos (by omega) (Ep.pos (by omega) ?_)
  refine Ep.ite (fun h0=>Ep.now ?_) (fun h0=>?_)
  ·exact(hbad j rfl (by omega) (by unfold leE;omega)).symm
  ·refine Ep.ite (fun h1=>?_) (fun h1=>hgood (fun j' hij _=>?_))
   ·refine Ep.ite (fun h2=>Ep.now ?_) (fun h2=>hgood (fun j' hij _=>?_))
    ·exact(hbad j rfl (by omega) (by unfold leE;omega)).symm
    ·obtain rfl:j'=j:=by omega
     unfold leE
     omega
   ·obtain rfl:j'=j:=by omega
    unfold leE
    omega
theorem aFv (n:Int) (es:List E):Ep (fun k=>aAi.f k n es) (·=gOk n es):=by
 simp only[aAi.f]
 refine Ep.bind (aPq n es) ?_
 rintro _ rfl
 refine Ep.ite (fun h=>?_) (fun h=>Ep.now ?_)
 ·have h':EsOk n es:=by simpa using h
  have h1:=h'.1
  obtain⟨m,rfl⟩:=Int.eq_ofNat_of_zero_le (a:=n) (by omega)
  exact aKq m es h' es.length 0 (by omega) (fun j h hj=>by omega)
 ·have h':¬ EsOk n es:=by simpa using h
  cases hg:gOk n es with
  | false=>rfl
  | true=>exact absurd (gOk_iff.1 hg).1 h'
end Go.Proofs.Ytnbljcgdgblgoaa.Cf
end
section
namespace Go.Proofs.Ytnbljcgdgblgoaa.Cf
open Go.RowKit Go.Proofs.YtnbljcgdgblgoaaW.PrintWords Go.Proofs.YtnbljcgdgblgoaaW.PrintMore Go.Proofs.Ytnbljcgdgblgoaa.P
theorem aGz (a b c:Int):aD7.f a b c=some (decide (b≤a∧a≤c)):=by
 unfold aD7.f
 by_cases h:a≥b
 ·rw[if_pos h]
  have:(b≤a∧a≤c)↔a≤c:=⟨fun x=>x.2,fun x=>⟨h,x⟩⟩
  simp only[this]
 ·rw[if_neg h]
  have:¬ (b≤a∧a≤c):=fun x=>h x.1
  simp only[this,decide_false]
theorem aLb (n:Int) (es:List E) (hl:es.length≤12):∀ (d i:Nat),i+d=es.length→Ep (fun k=>aBe.l0 k es (es.length:Int) (i:Int) n es) (·=decide (∀ e∈es.drop i,EOk n e)):=by
 intro d
 induction d with
 | zero =>
  intro i hi
  refine Ep.up ?_
  simp only[aBe.l0]
  refine Ep.neg (by omega) (Ep.now ?_)
  rw[List.drop_of_length_le (by omega)]
  simp
 | succ d ih =>
  intro i hi
  have hlt:i<es.length:=by omega
  have no:¬ EOk n es[i]→false=decide (∀ e∈es.drop i,EOk n e):=fun h=>by simp only[aF3 hlt,h,false_and,decide_false]
  refine Ep.up ?_
  simp only[aBe.l0]
  refine Ep.pos (by omega) (Ep.pos (by omega) (Ep.pos (by omega) ?_))
  rw[aEb hlt]
  refine Ep.ite (fun h=>Ep.now (no (by unfold EOk;omega))) (fun h0=>?_)
  refine Ep.ite (fun h=>Ep.now (no (by unfold EOk;omega))) (fun h1=>?_)
  refine Ep.ite (fun h=>Ep.now (no (by unfold EOk;omega))) (fun h2=>?_)
  rw[aBw (by omega)]
  refine(ih (i+1) (by omega)).mono ?_
  rintro _ rfl
  have:EOk n es[i]:=by unfold EOk;omega
  simp only[aF3 hlt,this,true_and]
theorem implEdges (n:Int) (es:List E):Ep (fun k=>aBe.f k n es) (·=decide (EsOk n es)):=by
 simp only[aBe.f]
 refine Ep.bind0 (aGz _ _ _) ?_
 refine Ep.ite (fun h0=>?_) (fun h0=>?_)
 ·have h0':1≤n∧n≤6:=by simpa using h0
  refine Ep.up ?_
  simp only[aBe.j0]
  refine Ep.ite (fun h1=>Ep.now ?_) (fun h1=>?_)
  ·have:¬ EsOk n es:=by
    have:(es.length:Int)>12:=by simpa using h1
    unfold EsOk
    omega
   simp[this]
  ·have hl:es.length≤12:=by
    have:¬ (es.length:Int)>12:=by simpa using h1
    omega
   refine(aLb n es hl es.length 0 (by omega)).mono ?_
   rintro _ rfl
   rw[List.drop_zero]
   unfold EsOk
   simp only[h0'.1,h0'.2,hl,true_and]
 ·have h0':¬ (1≤n∧n≤6):=by simpa using h0
  refine Ep.up ?_
  simp only[aBe.j0]
  refine Ep.pos (by simp) (Ep.now ?_)
  have:¬ EsOk n es:=by
   unfold EsOk
   omega
  simp[this]
theorem aGw (n:Int) (h0:0≤n) (h1:n<2^62):IntKind.i64.wrap n=n:=by rw[IntKind.wrap_i64];omega
theorem aT5 {a b:Nat} (ha:a<2^62) (hb:b<2^62):Go.bits .or .i64 (a:Int) (b:Int)=((a ||| b:Nat):Int):=(bits_nat .i64 62 (by decide) aGw a b ha hb).2
theorem aV6 {a b:Nat} (ha:a<2^62) (hb:b<2^62):Go.bits .and .i64 (a:Int) (b:Int)=((a &&& b:Nat):Int):=(bits_nat .i64 62 (by decide) aGw a b ha hb).1
theorem aM9 {a:Nat} (ha:a<62):shl .i64 1 (a:Int)=((2^a:Nat):Int):=by
 unfold shl
 have:(2:Int)^a<2^62:=by
  have:=Nat.pow_lt_pow_right (a:=2) (by decide) ha
  exact_mod_cast this
 rw[Int.toNat_natCast,Nat.min_eq_left (by show a≤64;omega),Int.one_mul,aGw _ (by have:=Int.pow_nonneg (n:=2) (m:=a) (by decide);omega) this]
 simp
theorem aU0 {m a:Nat} (ha:a<62):shr .i64 (m:Int) (a:Int)=((m/2^a:Nat):Int):=by
 unfold shr
 rw[Int.toNat_natCast,Nat.min_eq_left (by show a≤64;omega)]
 simp
theorem aI4 {m:Nat} (hm:m<2^62) {a:Nat} (ha:a<62):Go.bits .and .i64 (shr .i64 (m:Int) (a:Int)) 1=1↔m.testBit a=true:=by
 rw[aU0 ha,show (1:Int)=((1:Nat):Int) from rfl,aV6 (Nat.lt_of_le_of_lt (Nat.div_le_self _ _) hm) (by decide)]
 rw[Nat.testBit_eq_decide_div_mod_eq,Nat.and_one_is_mod]
 generalize m/2^a=x
 simp only[decide_eq_true_eq]
 omega
theorem aLj {m a:Nat}:m.testBit a=true∨m.testBit a=false:=by cases m.testBit a<;>simp
theorem MOk.lt {es:List E} {n m:Nat} (h:MOk es n m) (hn:n≤6):m<2^6:=by
 apply Nat.lt_pow_two_of_testBit
 intro i hi
 cases hb:m.testBit i with
 | false=>rfl
 | true=>have:=(h i hb).1;omega
theorem aPn {m:Nat} {e:E} {n:Int} (hm:m<2^6) (he:EOk n e) (hn:n≤6):aGn m e<2^6:=by
 unfold EOk at he
 unfold aGn
 split
 ·apply Nat.or_lt_two_pow hm
  apply Nat.or_lt_two_pow
  ·exact Nat.pow_lt_pow_right (by decide) (by omega)
  ·exact Nat.pow_lt_pow_right (by decide) (by omega)
 ·exact hm
theorem aRx {n:Int} (hn:n≤6):∀ (es:List E),(∀ e∈es,EOk n e)→∀ {m:Nat},m<2^6→aEj es m<2^6:=by
 intro es
 induction es with
 | nil=>intro _ m h;exact h
 | cons e r ih=>intro hes m h;exact ih (fun x hx=>hes x (List.mem_cons_of_mem _ hx)) (aPn h (hes e List.mem_cons_self) hn)
open Classical in
noncomputable def joinedB (n:Int) (es:List E):Bool:=decide (aEo n es)
theorem joinedB_iff {n:Int} {es:List E}:joinedB n es=true↔aEo n es:=by unfold joinedB;simp
theorem aMk (n:Int) (hn:n≤6) (es:List E) (hl:es.length≤1048576) (hes:∀ e∈es,EOk n e) (x8 x9:Int) {Q:Bool→Prop} (m0:Nat)
  (hk:Ep (fun k=>aAt.l0 k n es ((aEj es m0:Nat):Int) x8 (wrap64 (x9+1))) Q) :
  ∀ (d i:Nat) (m:Nat),i+d=es.length→m<2^6→aEj (es.drop i) m=aEj es m0→Ep (fun k=>aAt.l1 k n es (m:Int) x8 x9 es (es.length:Int) (i:Int)) Q:=by
 intro d
 induction d with
 | zero =>
  intro i m hi hm hr
  refine Ep.up ?_
  simp only[aAt.l1]
  refine Ep.neg (by omega) ?_
  rw[List.drop_of_length_le (by omega)]at hr
  have e:m=aEj es m0:=hr
  rw[e]
  exact hk
 | succ d ih =>
  intro i m hi hm hr
  have hlt:i<es.length:=by omega
  have hek:=hes es[i] (List.getElem_mem hlt)
  have he:=hek
  unfold EOk at he
  rw[List.drop_eq_getElem_cons hlt]at hr
  have hr':aEj (es.drop (i+1)) (aGn m es[i])=aEj es m0:=hr
  have hst:=aPn hm hek hn
  obtain⟨a,ha⟩:=Int.eq_ofNat_of_zero_le he.1
  obtain⟨b,hb⟩:=Int.eq_ofNat_of_zero_le (a:=es[i].f1) (by omega)
  have ha6:a<6:=by omega
  have hb6:b<6:=by omega
  have hm62:m<2^62:=by omega
  have pa:2^a<2^6:=Nat.pow_lt_pow_right (by decide) ha6
  have pb:2^b<2^6:=Nat.pow_lt_pow_right (by decide) hb6
  have pab:2^a ||| 2^b<2^6:=Nat.or_lt_two_pow pa pb
  have hset:Go.bits .or .i64 (m:Int) (Go.bits .or .i64 (shl .i64 1 (a:Int)) (shl .i64 1 (b:Int)))=((m ||| (2^a ||| 2^b):Nat):Int):=by
   rw[aM9 (by omega),aM9 (by omega),aT5 (by omega) (by omega),aT5 (by omega) (by omega)]
  have hstep:(m.testBit a||m.testBit b)=true→aGn m es[i]=m ||| (2^a ||| 2^b):=by
   intro h
   unfold aGn
   rw[ha,hb]
   simp only[Int.ofNat_eq_natCast,Int.toNat_natCast]
   rw[if_pos h]
  have hstay:(m.testBit a||m.testBit b)=false→aGn m es[i]=m:=by
   intro h
   unfold aGn
   rw[ha,hb]
   simp only[Int.ofNat_eq_natCast,Int.toNat_natCast]
   rw[if_neg (by rw[h];simp)]
  refine Ep.up ?_
  simp only[aAt.l1]
  refine Ep.pos (by omega) (Ep.pos (by omega) (Ep.pos (by omega) ?_))
  rw[aEb hlt,ha,hb]
  refine Ep.pos (by omega) ?_
  rw[hset,aBw (by omega)]
  refine Ep.ite (fun h=>Ep.pos (by omega) ?_) (fun h=>Ep.pos (by omega) (Ep.ite (fun h2=>?_) (fun h2=>?_)))
  ·have:=(aI4 hm62 (by omega)).1 h
   rw[← hstep (by rw[this];rfl)]
   exact ih (i+1) _ (by omega) hst hr'
  ·have:=(aI4 hm62 (by omega)).1 h2
   rw[← hstep (by rw[this];simp)]
   exact ih (i+1) _ (by omega) hst hr'
  ·have h1:m.testBit a=false:=by
    rcases aLj (m:=m) (a:=a) with x|x
    ·exact absurd ((aI4 hm62 (by omega)).2 x) h
    ·exact x
   have h3:m.testBit b=false:=by
    rcases aLj (m:=m) (a:=b) with x|x
    ·exact absurd ((aI4 hm62 (by omega)).2 x) h2
    ·exact x
   have:=hstay (by rw[h1,h3];rfl)
   rw[this]at hr'
   exact ih (i+1) _ (by omega) hm hr'
theorem aMl (n:Nat) (hn:1≤n∧n≤6) (es:List E) (hl:es.length≤1048576) (hes:∀ e∈es,EOk n e):∀ (d i m:Nat),i+d=n→m<2^6→aF6 es d m=aF6 es n 1→Ep (fun k=>aAt.l0 k (n:Int) es (m:Int) (n:Int) (i:Int)) (·=joinedB n es):=by
 intro d
 induction d with
 | zero =>
  intro i m hi hm hr
  refine Ep.up ?_
  simp only[aAt.l0]
  refine Ep.neg (by omega) (Ep.pos (by omega) (Ep.now ?_))
  have hr':m=aF6 es n 1:=hr
  have hp:1≤2^n:=Nat.one_le_two_pow
  have hp2:2^n≤2^6:=Nat.pow_le_pow_right (by decide) hn.2
  rw[aM9 (by omega),aC5 (by omega) (by omega)]
  rw[Bool.eq_iff_iff,joinedB_iff,← aFs hn.1 hes,← hr']
  simp only[beq_iff_eq]
  omega
 | succ d ih =>
  intro i m hi hm hr
  refine Ep.up ?_
  simp only[aAt.l0]
  refine Ep.pos (by omega) ?_
  refine aMk n (by omega) es hl hes _ _ m ?_ es.length 0 m (by omega) hm (by rw[List.drop_zero])
  rw[aBw (by omega)]
  exact ih (i+1) _ (by omega) (aRx (by omega) es hes hm) hr
theorem implConn (n:Nat) (hn:1≤n∧n≤6) (es:List E) (hl:es.length≤1048576) (hes:∀ e∈es,EOk n e):Ep (fun k=>aAt.f k (n:Int) es) (·=joinedB n es):=by
 simp only[aAt.f]
 exact aMl n hn es hl hes n 0 1 (by omega) (by decide) rfl
end Go.Proofs.Ytnbljcgdgblgoaa.Cf
end
section
namespace Go.Proofs.Ytnbljcgdgblgoaa.P
open Go.RowKit Go.Proofs.YtnbljcgdgblgoaaW.PrintWords Go.Proofs.YtnbljcgdgblgoaaW.PrintLast Go.Proofs.YtnbljcgdgblgoaaW.PrintMore
attribute [local go_sem] aCt aCr aDb aDa aCa aC9 aCs aCq
def aBk.f (a0:Int):Option (Bool):=some (a0 != a0)
theorem aBk.calls (a0:Int) (r:Bool) (w:World) (h:aBk.f a0=some r) :
  Calls Try.prog 133 #[.int .i64 a0] w fun e w'=>e = .returned (.bool r)∧aB8 w w':=by
 have H:(some (a0 != a0))=some r:=h;clear h;obtain rfl:=Option.some.inj H;go_enter Try.func133,Try.ntmps133;go_wp2;go_ret;exact⟨zz6,by repeat(first|exact aB8.refl _|apply aB8.step)⟩
def aD8.f (a0:Int) (a1:Int):Option (Int):=(aBk.f a0).bind fun bY=>((aBk.f a1).bind fun aW=>(if bY=true then(if aW=true then(some 0) else(some (-1))) else(if aW=true then(some 1) else(if a0<a1 then(some (-1)) else(if a0>a1 then(some 1) else(some 0))))))
theorem aD8.calls (a0:Int) (a1:Int) (r:Int) (w:World) (h:aD8.f a0 a1=some r) :
  Calls Try.prog 100 #[.int .i64 a0,.int .i64 a1] w fun e w'=>e = .returned (.int .i64 r)∧aB8 w w':=by
 have H:((aBk.f a0).bind fun bY=>((aBk.f a1).bind fun aW=>(if bY=true then(if aW=true then(some 0) else(some (-1))) else(if aW=true then(some 1) else(if a0<a1 then(some (-1)) else(if a0>a1 then(some 1) else(some 0)))))))=some r:=h;clear h;obtain⟨bY,A30,H⟩:=zO_ H;(try dsimp only at H);have A3:=zK_ A30;clear A30;obtain⟨aW,A40,H⟩:=zO_ H;(try dsimp only at H);have A4:=zK_ A40;clear A40;by_cases c5:bY=true
 ·subst c5;rw[if_pos rfl]at H;by_cases c6:aW=true
  ·subst c6;rw[if_pos rfl]at H;obtain rfl:=Option.some.inj H;go_enter Try.func100,Try.ntmps100;(go_wp2_with (first|((with_reducible refine aAb (f:=133) rfl ?_);refine aBd (some 8) rfl rfl Try.func133 (by kernel_rfl) rfl #[.int .i64 a0] rfl zz3 ?_;(with_reducible refine(aBk.calls a0 true _ A3.out).mono ?_);rintro e w' ⟨rfl,⟨nd,rfl⟩⟩;refine⟨_,rfl,?_⟩)|((with_reducible refine aAb (f:=133) rfl ?_);refine aBd (some 10) rfl rfl Try.func133 (by kernel_rfl) rfl #[.int .i64 a1] rfl zz3 ?_;(with_reducible refine(aBk.calls a1 true _ A4.out).mono ?_);rintro e w' ⟨rfl,⟨nd,rfl⟩⟩;refine⟨_,rfl,?_⟩)));go_ret;exact⟨zz6,by repeat(first|exact aB8.refl _|apply aB8.step)⟩
  replace c6:=Bool.eq_false_iff.mpr c6;subst c6;rw[if_neg (show ¬ (false=true) by decide)]at H;obtain rfl:=Option.some.inj H;go_enter Try.func100,Try.ntmps100;(go_wp2_with (first|((with_reducible refine aAb (f:=133) rfl ?_);refine aBd (some 8) rfl rfl Try.func133 (by kernel_rfl) rfl #[.int .i64 a0] rfl zz3 ?_;(with_reducible refine(aBk.calls a0 true _ A3.out).mono ?_);rintro e w' ⟨rfl,⟨nd,rfl⟩⟩;refine⟨_,rfl,?_⟩)|((with_reducible refine aAb (f:=133) rfl ?_);refine aBd (some 10) rfl rfl Try.func133 (by kernel_rfl) rfl #[.int .i64 a1] rfl zz3 ?_;(with_reducible refine(aBk.calls a1 false _ A4.out).mono ?_);rintro e w' ⟨rfl,⟨nd,rfl⟩⟩;refine⟨_,rfl,?_⟩)));go_ret;exact⟨zz6,by repeat(first|exact aB8.refl _|apply aB8.step)⟩
 replace c5:=Bool.eq_false_iff.mpr c5;subst c5;rw[if_neg (show ¬ (false=true) by decide)]at H;by_cases c7:aW=true
 ·subst c7;rw[if_pos rfl]at H;obtain rfl:=Option.some.inj H;go_enter Try.func100,Try.ntmps100;(go_wp2_with (first|((with_reducible refine aAb (f:=133) rfl ?_);refine aBd (some 8) rfl rfl Try.func133 (by kernel_rfl) rfl #[.int .i64 a0] rfl zz3 ?_;(with_reducible refine(aBk.calls a0 false _ A3.out).mono ?_);rintro e w' ⟨rfl,⟨nd,rfl⟩⟩;refine⟨_,rfl,?_⟩)|((with_reducible refine aAb (f:=133) rfl ?_);refine aBd (some 10) rfl rfl Try.func133 (by kernel_rfl) rfl #[.int .i64 a1] rfl zz3 ?_;(with_reducible refine(aBk.calls a1 true _ A4.out).mono ?_);rintro e w' ⟨rfl,⟨nd,rfl⟩⟩;refine⟨_,rfl,?_⟩)));go_ret;exact⟨zz6,by repeat(first|exact aB8.refl _|apply aB8.step)⟩
 replace c7:=Bool.eq_false_iff.mpr c7;subst c7;rw[if_neg (show ¬ (false=true) by decide)]at H;by_cases c8:a0<a1
 ·rw[if_pos c8]at H;have iH:=decide_eq_true c8;clear c8;obtain rfl:=Option.some.inj H;go_enter Try.func100,Try.ntmps100;(go_wp2_with (first|((with_reducible refine aAb (f:=133) rfl ?_);refine aBd (some 8) rfl rfl Try.func133 (by kernel_rfl) rfl #[.int .i64 a0] rfl zz3 ?_;(with_reducible refine(aBk.calls a0 false _ A3.out).mono ?_);rintro e w' ⟨rfl,⟨nd,rfl⟩⟩;refine⟨_,rfl,?_⟩)|((with_reducible refine aAb (f:=133) rfl ?_);refine aBd (some 10) rfl rfl Try.func133 (by kernel_rfl) rfl #[.int .i64 a1] rfl zz3 ?_;(with_reducible refine(aBk.calls a1 false _ A4.out).mono ?_);rintro e w' ⟨rfl,⟨nd,rfl⟩⟩;refine⟨_,rfl,?_⟩)));go_ret;exact⟨zz6,by repeat(first|exact aB8.refl _|apply aB8.step)⟩
 rw[if_neg c8]at H;have iH:=decide_eq_false c8;clear c8;by_cases c9:a0>a1
 ·rw[if_pos c9]at H;have iZ:decide (a1<a0)=true:=decide_eq_true c9;clear c9;obtain rfl:=Option.some.inj H;go_enter Try.func100,Try.ntmps100;(go_wp2_with (first|((with_reducible refine aAb (f:=133) rfl ?_);refine aBd (some 8) rfl rfl Try.func133 (by kernel_rfl) rfl #[.int .i64 a0] rfl zz3 ?_;(with_reducible refine(aBk.calls a0 false _ A3.out).mono ?_);rintro e w' ⟨rfl,⟨nd,rfl⟩⟩;refine⟨_,rfl,?_⟩)|((with_reducible refine aAb (f:=133) rfl ?_);refine aBd (some 10) rfl rfl Try.func133 (by kernel_rfl) rfl #[.int .i64 a1] rfl zz3 ?_;(with_reducible refine(aBk.calls a1 false _ A4.out).mono ?_);rintro e w' ⟨rfl,⟨nd,rfl⟩⟩;refine⟨_,rfl,?_⟩)));go_ret;exact⟨zz6,by repeat(first|exact aB8.refl _|apply aB8.step)⟩
 rw[if_neg c9]at H;have iZ:decide (a1<a0)=false:=decide_eq_false c9;clear c9;obtain rfl:=Option.some.inj H;go_enter Try.func100,Try.ntmps100;(go_wp2_with (first|((with_reducible refine aAb (f:=133) rfl ?_);refine aBd (some 8) rfl rfl Try.func133 (by kernel_rfl) rfl #[.int .i64 a0] rfl zz3 ?_;(with_reducible refine(aBk.calls a0 false _ A3.out).mono ?_);rintro e w' ⟨rfl,⟨nd,rfl⟩⟩;refine⟨_,rfl,?_⟩)|((with_reducible refine aAb (f:=133) rfl ?_);refine aBd (some 10) rfl rfl Try.func133 (by kernel_rfl) rfl #[.int .i64 a1] rfl zz3 ?_;(with_reducible refine(aBk.calls a1 false _ A4.out).mono ?_);rintro e w' ⟨rfl,⟨nd,rfl⟩⟩;refine⟨_,rfl,?_⟩)));go_ret;exact⟨zz6,by repeat(first|exact aB8.refl _|apply aB8.step)⟩
def aDq.f (aD:Int) (mZ:Int) (oN:Int) (pU:Int):Option (Int):=(aD8.f aD oN).bind fun bH=>(if bH=0 then((aD8.f mZ pU).bind fun iO=>(some iO)) else(some bH))
theorem aDq.calls (aD:Int) (mZ:Int) (oN:Int) (pU:Int) (r:Int) (w:World) (h:aDq.f aD mZ oN pU=some r) :
  Calls Try.prog 92 #[.agg #[.int .i64 aD,.int .i64 mZ],.agg #[.int .i64 oN,.int .i64 pU]] w fun e w'=>e = .returned (.int .i64 r)∧Below w.heap.size w w':=by
 have hu57:=Try.underlying57;have HB:=zK_ (Below.refl w.heap.size w);have H:((aD8.f aD oN).bind fun bH=>(if bH=0 then((aD8.f mZ pU).bind fun iO=>(some iO)) else(some bH)))=some r:=h;clear h;obtain⟨bH,A30,H⟩:=zO_ H;(try dsimp only at H);have A3:=zK_ A30;clear A30;by_cases c4:bH=0;rotate_left
 ·rw[if_neg c4]at H;have gJ:(bH==0)=false:=beq_eq_false_iff_ne.mpr c4;have qO:(bH != 0)=true:=bne_iff_ne.mpr c4;obtain rfl:=Option.some.inj H;go_enter Try.func92,Try.ntmps92;(go_wp2_with (first|((with_reducible refine aAn (N:=2) rfl ?_);refine aAl ?hg (N:=2) ?hd (cs:=#[.int .i64 aD,.int .i64 mZ]) (t:=57) ?hr ?_;(case hd=>rfl);(case hg=>rfl);(case hr=>exact aCp);intro aE hg w11 hbox hb;have n_:=zA4 (aA2 zz2 hb) hbox (aDi:w.heap.size≤aE) (aDi:w.heap.size≤aE);clear HB;obtain⟨HB,aA,GW101,GE101⟩:=n_;clear hb hbox hg)|((with_reducible refine aAn (N:=3) rfl ?_);refine aAl ?hg (N:=3) ?hd (cs:=#[.int .i64 oN,.int .i64 pU]) (t:=57) ?hr ?_;(case hd=>rfl);(case hg=>rfl);(case hr=>exact aCp);intro aU hg w12 hbox hb;have n_:=zA7 (aA3 (g:=aE) (o:=.cells #[.int .i64 aD,.int .i64 mZ] 57 (0,0)) zz0 hb) (aA2 zz1 hb) hbox (aEg:w.heap.size≤aU) (aEg:w.heap.size≤aU) (by rw[hg];exact Nat.ne_of_lt (aC3 (g:=aE) (o:=.cells #[.int .i64 aD,.int .i64 mZ] 57 (0,0)) zz0):aE≠aU) (by rw[hg];exact Nat.ne_of_gt (aC3 (g:=aE) (o:=.cells #[.int .i64 aD,.int .i64 mZ] 57 (0,0)) zz0):aU≠aE);clear aA HB;obtain⟨aA,HB,aH,GW102,GE102,b6,cQ⟩:=n_;clear hb hbox hg;have qC:=b6.out;have qB:=cQ.out;have fZ:=aC7 aA;have fY:=aC6 aA;have fX:=aA0 aA.out 0;have fW:=aA0 aA.out 1;have d8:=aC7 aH;have d7:=aC6 aH;have d4:=aA0 aH.out 0;have d3:=aA0 aH.out 1)|((with_reducible refine aAb (f:=100) rfl ?_);refine aBd (some 10) rfl rfl Try.func100 (by kernel_rfl) rfl #[.int .i64 aD,.int .i64 oN] rfl zz3 ?_;(with_reducible refine(aD8.calls aD oN bH _ A3.out).mono ?_);rintro e w' ⟨rfl,⟨nd,rfl⟩⟩;refine⟨_,rfl,?_⟩)));go_ret;exact⟨zz9,aI5⟩
 rw[if_pos c4]at H;have gJ:(bH==0)=true:=beq_iff_eq.mpr c4;have qO:(bH != 0)=false:=bne_eq_false_iff_eq.mpr c4;clear c4;obtain⟨iO,A50,H⟩:=zO_ H;(try dsimp only at H);have A5:=zK_ A50;clear A50;obtain rfl:=Option.some.inj H;go_enter Try.func92,Try.ntmps92;(go_wp2_with (first|((with_reducible refine aAn (N:=2) rfl ?_);refine aAl ?hg (N:=2) ?hd (cs:=#[.int .i64 aD,.int .i64 mZ]) (t:=57) ?hr ?_;(case hd=>rfl);(case hg=>rfl);(case hr=>exact aCp);intro aE hg w6 hbox hb;have n_:=zA4 (aA2 zz2 hb) hbox (aDi:w.heap.size≤aE) (aDi:w.heap.size≤aE);clear HB;obtain⟨HB,aA,GW101,GE101⟩:=n_;clear hb hbox hg)|((with_reducible refine aAn (N:=3) rfl ?_);refine aAl ?hg (N:=3) ?hd (cs:=#[.int .i64 oN,.int .i64 pU]) (t:=57) ?hr ?_;(case hd=>rfl);(case hg=>rfl);(case hr=>exact aCp);intro aU hg w7 hbox hb;have n_:=zA7 (aA3 (g:=aE) (o:=.cells #[.int .i64 aD,.int .i64 mZ] 57 (0,0)) zz0 hb) (aA2 zz1 hb) hbox (aEg:w.heap.size≤aU) (aEg:w.heap.size≤aU) (by rw[hg];exact Nat.ne_of_lt (aC3 (g:=aE) (o:=.cells #[.int .i64 aD,.int .i64 mZ] 57 (0,0)) zz0):aE≠aU) (by rw[hg];exact Nat.ne_of_gt (aC3 (g:=aE) (o:=.cells #[.int .i64 aD,.int .i64 mZ] 57 (0,0)) zz0):aU≠aE);clear aA HB;obtain⟨aA,HB,aH,GW102,GE102,b6,cQ⟩:=n_;clear hb hbox hg;have OE:=b6.out;have OB:=cQ.out;have gG:=aC7 aA;have gF:=aC6 aA;have gC:=aA0 aA.out 0;have gB:=aA0 aA.out 1;have eB:=aC7 aH;have d9:=aC6 aH;have d6:=aA0 aH.out 0;have d5:=aA0 aH.out 1)|((with_reducible refine aAb (f:=100) rfl ?_);refine aBd (some 10) rfl rfl Try.func100 (by kernel_rfl) rfl #[.int .i64 aD,.int .i64 oN] rfl zz3 ?_;(with_reducible refine(aD8.calls aD oN bH _ A3.out).mono ?_);rintro e w' ⟨rfl,⟨nd,rfl⟩⟩;refine⟨_,rfl,?_⟩)|((with_reducible refine aAb (f:=100) rfl ?_);refine aBd (some 18) rfl rfl Try.func100 (by kernel_rfl) rfl #[.int .i64 mZ,.int .i64 pU] rfl zz3 ?_;(with_reducible refine(aD8.calls mZ pU iO _ A5.out).mono ?_);rintro e w' ⟨rfl,⟨nd,rfl⟩⟩;refine⟨_,rfl,?_⟩)));go_ret;exact⟨zz9,aI5⟩
end Go.Proofs.Ytnbljcgdgblgoaa.P
end
section
namespace Go.Proofs.Ytnbljcgdgblgoaa.Cf
open Go.RowKit Go.Proofs.YtnbljcgdgblgoaaW.PrintWords Go.Proofs.YtnbljcgdgblgoaaW.PrintLast Go.Proofs.YtnbljcgdgblgoaaW.PrintMore Go.Proofs.Ytnbljcgdgblgoaa.P
def aW6 (a b:Int):Int:=if a<b then -1 else if a>b then 1 else 0
theorem aT8 (a b:Int):aD8.f a b=some (aW6 a b):=by
 unfold aD8.f aBk.f aW6
 simp
 split<;>(try split)<;>rfl
def aXl (a b:E):Int:=if aW6 a.f0 b.f0=0 then aW6 a.f1 b.f1 else aW6 a.f0 b.f0
theorem aUy (a b:E):aDq.f a.f0 a.f1 b.f0 b.f1=some (aXl a b):=by
 unfold aDq.f aXl
 rw[aT8,aT8]
 simp only[Option.bind_some]
 split<;>rfl
theorem aUx (a b:E):aXl a b<0↔¬ leE b a:=by
 unfold aXl aW6 leE
 by_cases h:a.f0<b.f0
 ·simp[h];try omega
 ·by_cases h2:a.f0>b.f0
  ·simp[h,h2];try omega
  ·by_cases h3:a.f1<b.f1
   ·simp[h,h2,h3];try omega
   ·by_cases h4:a.f1>b.f1
    ·simp[h,h2,h3,h4];try omega
    ·simp[h,h2,h3,h4];try omega
open Classical in
noncomputable def sortedB (es:List E):Bool:=decide (Sorted es)
theorem sortedB_iff {es:List E}:sortedB es=true↔Sorted es:=by unfold sortedB;simp
def aE6 (es:List E) (i:Nat):Prop:=∀ j,i≤j→(h:j+1<es.length)→leE es[j] es[j+1]
theorem aE6.all {es:List E} (h:aE6 es 0):sortedB es=true:=sortedB_iff.2 (fun j hj=>h j (Nat.zero_le _) hj)
theorem aE6.none {es:List E} {i:Nat} (h:i+1<es.length) (hn:¬ leE es[i] es[i+1]):sortedB es=false:=by
 cases hb:sortedB es with
 | false=>rfl
 | true=>exact absurd (sortedB_iff.1 hb i h) hn
theorem aE6.down {es:List E} {i:Nat} (h:aE6 es (i+1)) (hi:i+1<es.length) (hl:leE es[i] es[i+1]):aE6 es i:=by
 intro j hj hjl
 by_cases e:j=i
 ·subst e;exact hl
 ·exact h j (by omega) hjl
theorem isf_calls (es:List E) (A:Option Addr) (c:Nat) (w:World) (hr:Kd.C k57 w A es.length es) (hc:es.length≤c) :
  Calls Try.prog 91 #[.slice A es.length c,.func (.func 92) #[] #[]] w fun e w'=>e = .returned (.bool (sortedB es))∧Below w.heap.size w w':=by
 have hlen:=hr.2.1
 have HR:=Aside0.mk hr
 have HL:=Aside0.mk hlen
 clear hr hlen
 have HB:=Aside0.mk (Below.refl w.heap.size w)
 go_enter Try.func91,Try.ntmps91
 go_wp2
 go_loopw [5] (fun v wr=>∃ i:Int,v = .int .i64 i∧Aside0 (-1≤i∧i<es.length∧aE6 es i.toNat)∧Aside0 (Below w.heap.size w wr)) (fun v _=>(intOf v+1).toNat)
 case atStart=>exact⟨(es.length:Int)-1,by rw[aC5 (by have:=HL.out;omega) (by have:=HL.out;omega)],⟨by omega,by omega,fun j hj hjl=>by omega⟩,HB⟩
 case round =>
  obtain⟨i,rfl,HI,HB⟩:=hrel
  by_cases h0:0<i
  ·obtain⟨j,hij⟩:∃ j:Nat,i=(j:Int)+1:=⟨(i-1).toNat,by omega⟩
   have hj:=HI.out.2.1
   have hl:=HL.out
   have hw:wrap64 (i-1)=(j:Int):=by rw[aC5 (by omega) (by omega)];omega
   have p1:0≤i:=by omega
   have p2:0≤wrap64 (i-1):=by omega
   have q2:wrap64 (i-1)<(es.length:Int):=by omega
   obtain⟨ad,e,hx0,hx1⟩:=aCo HR.out i p1 hj
   cases e
   obtain⟨ad',e,hy0,hy1⟩:=aCo HR.out (wrap64 (i-1)) p2 q2
   cases e
   replace hx0:=(HB.out.cell (World.block_lt_of_cell? w _ hx0)).trans hx0
   replace hx1:=(HB.out.cell (World.block_lt_of_cell? w _ hx1)).trans hx1
   replace hy0:=(HB.out.cell (World.block_lt_of_cell? w _ hy0)).trans hy0
   replace hy1:=(HB.out.cell (World.block_lt_of_cell? w _ hy1)).trans hy1
   have c0:decide (0<i)=true:=decide_eq_true h0
   replace p1:=eq_true p1
   have q1:=eq_true hj
   replace p2:=eq_true p2
   replace q2:=eq_true q2
   have HW:=Aside0.mk hw
   have HIJ:=Aside0.mk hij
   clear hj hl hw hij h0
   go_wp2
   go_still_tail 10,(by kernel_rfl)
   simp only[aE7]
   repeat still_step
   refine wpStill_nil ?_
   change wpList _ _ _ _ _ wr.drew
   have HB':=Aside0.mk (aAs HB.out)
   clear HB hx0 hx1 hy0 hy1
   generalize wr.drew=w2 at HB' ⊢
   have HX:=Aside0.mk (aUy (aA4 es i) (aA4 es (wrap64 (i-1))))
   have HC:=Aside0.mk (aUx (aA4 es i) (aA4 es (wrap64 (i-1))))
   generalize aXl (aA4 es i) (aA4 es (wrap64 (i-1)))=z at HX HC
   have HE:Aside0 (∃ hj:j+1<es.length,aA4 es i=es[j+1]∧aA4 es (wrap64 (i-1))=es[j]):=by
    have hj:j+1<es.length:=by
     have:=HI.out.2.1
     have:=HIJ.out
     omega
    have e1:i=((j+1:Nat):Int):=by have:=HIJ.out;omega
    refine⟨hj,?_,?_⟩
    ·rw[e1,aEb hj]
    ·rw[HW.out,aEb (by omega)]
   by_cases hz:z<0
   ·have cz:decide (z<0)=true:=decide_eq_true hz
    have HZ:=Aside0.mk hz
    clear hz
    go_wp2_with fail
    refine(aDq.calls _ _ _ _ z _ HX.out).mono ?_
    rintro e w3 ⟨rfl,hb⟩
    go_wp2
    go_ret
    obtain⟨hj,e1,e2⟩:=HE.out
    have hs:=aE6.none hj (by rw[← e1,← e2];exact HC.out.1 HZ.out)
    exact⟨by rw[hs];rfl,aA2 HB'.out hb⟩
   ·have cz:decide (z<0)=false:=decide_eq_false hz
    have HZ:=Aside0.mk hz
    clear hz
    go_wp2_with fail
    refine(aDq.calls _ _ _ _ z _ HX.out).mono ?_
    rintro e w3 ⟨rfl,hb⟩
    have HB2:=Aside0.mk (aA2 HB'.out hb)
    clear hb
    go_wp2
    go_roundw
    case rel =>
     have hi:=HI.out
     have hw:=HW.out
     have hij:=HIJ.out
     refine⟨wrap64 (i-1),rfl,⟨by omega,by omega,?_⟩,HB2⟩
     obtain⟨hj,e1,e2⟩:=HE.out
     have hle:leE es[j] es[j+1]:=by
      rw[← e1,← e2]
      apply Classical.byContradiction
      intro hn
      have h1:=HC.out.2 hn
      have h2:=HZ.out
      omega
     rw[hw,Int.toNat_natCast]
     refine aE6.down ?_ hj hle
     have:=hi.2.2
     rw[hij,show ((j:Int)+1).toNat=j+1 by omega]at this
     exact this
    case measure =>
     have hi:=HI.out
     have hw:=HW.out
     have hij:=HIJ.out
     simp[intOf]
     omega
  ·have c0:decide (0<i)=false:=decide_eq_false h0
   have HZ:=Aside0.mk h0
   clear h0
   go_wp2
   go_ret
   have:=HI.out
   have h0:=HZ.out
   have hs:aE6 es i.toNat:=this.2.2
   rw[show i.toNat=0 by omega]at hs
   have ha:=hs.all
   exact⟨by rw[ha];rfl,HB.out⟩
end Go.Proofs.Ytnbljcgdgblgoaa.Cf
end
section
namespace Go.Proofs.Ytnbljcgdgblgoaa.P
open Go.RowKit Go.Proofs.YtnbljcgdgblgoaaW.PrintWords Go.Proofs.YtnbljcgdgblgoaaW.PrintLast Go.Proofs.YtnbljcgdgblgoaaW.PrintMore
attribute [local go_sem] aCt aCr aDb aDa aCa aC9 aCs aCq
def aC2.f (aD:Int) (aC:List (S57)):Option Bool:=some (Cf.gOk aD aC)
theorem aC2.calls (aD:Int) (aI:Option Addr) (aG:Nat) (aC:List (S57)) (r:Bool) (w:World) (hr0_1:Kd.C k57 w aI aC.length aC) (hc0_1:aC.length≤aG) (h:aC2.f aD aC=some r) :
  Calls Try.prog 50 #[.agg #[.int .i64 aD,.slice aI aC.length aG]] w fun e w'=>e = .returned (.bool r)∧Below w.heap.size w w':=by
 obtain rfl:=Option.some.inj h;clear h;obtain⟨k1,hk1⟩:=(Cf.implEdges aD aC).rounds;have HR:=zK_ hr0_1;have HK1:=zK_ hk1;clear hr0_1 hk1;go_enter Try.func50,Try.ntmps50;have HB:=zK_ (aAz (Below.refl w.heap.size w) (.cells #[.int .i64 aD,.slice aI aC.length aG] 25));have BK:=zK_ (heap_alloc_new w (.cells #[.int .i64 aD,.slice aI aC.length aG] 25));by_cases he:Cf.EsOk aD aC;rotate_left
 ·have HE:=zK_ he;replace HK1:=zK_ (HK1.out.trans (congrArg some (decide_eq_false he)));clear he;(go_wp2_with fail);refine(aBe.calls k1 _ _ _ aC false _ (Kd.C_below HR.out HB.out) hc0_1 HK1.out).mono ?_;rintro e w1 ⟨rfl,hb⟩;have HB1:=zK_ (aA2 HB.out hb);clear hb;go_wp2;go_ret
  have hg:Cf.gOk aD aC=false:=by
   cases hb:Cf.gOk aD aC with
   | false=>rfl
   | true=>exact absurd (Cf.gOk_iff.1 hb).1 HE.out
  exact⟨by rw[hg];rfl,HB1.out⟩
 have HE:=zK_ he;replace HK1:=zK_ (HK1.out.trans (congrArg some (decide_eq_true he)));clear he;(go_wp2_with fail);refine(aBe.calls k1 _ _ _ aC true _ (Kd.C_below HR.out HB.out) hc0_1 HK1.out).mono ?_;rintro e w1 ⟨rfl,hb⟩;have HB1:=zK_ (aA2 HB.out hb);have sX:=zK_ (aA3 BK.out hb);clear hb;have hz0:w1.cell? ⟨w.heap.size,0,none⟩=some (.int .i64 aD):=(blk_cell sX.out 0).trans rfl;have hz1:w1.cell? ⟨w.heap.size,1,none⟩=some (.slice aI aC.length aG):=(blk_cell sX.out 1).trans rfl;(go_wp2_with fail);have HS:=zK_ (Cf.isf_calls aC aI aG w1 (Kd.C_below HR.out HB1.out) hc0_1);by_cases hs:Cf.Sorted aC;rotate_left
 ·have hsb:Cf.sortedB aC=false:=by
   cases hb:Cf.sortedB aC with
   | false=>rfl
   | true=>exact absurd (Cf.sortedB_iff.1 hb) hs
  rw[hsb]at HS;have HSo:=zK_ hs;clear hs hsb;refine HS.out.mono ?_;rintro e w2 ⟨rfl,hb⟩;have HB2:=zK_ (aA2 HB1.out hb);clear hb hz0 hz1;go_wp2;go_ret
  have hg:Cf.gOk aD aC=false:=by
   cases hb:Cf.gOk aD aC with
   | false=>rfl
   | true=>exact absurd (Cf.gOk_iff.1 hb).2.1 HSo.out
  exact⟨by rw[hg];rfl,HB2.out⟩
 have HSo:=zK_ hs;rw[Cf.sortedB_iff.2 hs]at HS;clear hs;refine HS.out.mono ?_;rintro e w2 ⟨rfl,hb⟩;have HB2:=zK_ (aA2 HB1.out hb);have N5:=zK_ (aA3 sX.out hb);clear hb hz0 hz1;have hz0:w2.cell? ⟨w.heap.size,0,none⟩=some (.int .i64 aD):=(blk_cell N5.out 0).trans rfl;have hz1:w2.cell? ⟨w.heap.size,1,none⟩=some (.slice aI aC.length aG):=(blk_cell N5.out 1).trans rfl;(go_wp2_with fail);obtain⟨h1,h6,hl,hes⟩:=HE.out;obtain⟨n,rfl⟩:=Int.eq_ofNat_of_zero_le (a:=aD) (by omega);obtain⟨k2,hk2⟩:=(Cf.implConn n ⟨by omega,by omega⟩ aC (by omega) hes).rounds;refine(aAt.calls k2 _ _ _ aC (Cf.joinedB n aC) _ (Kd.C_below HR.out HB2.out) hc0_1 hk2).mono ?_;rintro e w3 ⟨rfl,hd⟩;have HB3:=zK_ (aA2 HB2.out hd);clear hd hk2 h1 h6 hl hes
 have hg:Cf.gOk n aC=Cf.joinedB n aC:=by
  rw[Bool.eq_iff_iff,Cf.gOk_iff,Cf.joinedB_iff];exact⟨fun h=>h.2.2,fun h=>⟨HE.out,HSo.out,h⟩⟩
 have HG:=zK_ hg;clear hg;generalize Cf.joinedB n aC=z at HG ⊢;cases z
 ·go_wp2;go_ret;exact⟨by rw[HG.out];rfl,HB3.out⟩
 ·go_wp2;go_ret;exact⟨by rw[HG.out];rfl,HB3.out⟩
def aB3.l0:Nat→Int→Int→List Int→Int→Int→Option (Bool)
 | 0,_,_,_,_,_=>none
 | k+1,x1,x2,x9,fH,f4=>if f4<fH then(if 0≤f4 then(if f4<(x9.length:Int) then((aD7.f (rd x9 f4) x1 x2).bind fun aW=>(if aW=true then(aB3.l0 k x1 x2 x9 fH (wrap64 (f4+1))) else(some false))) else(none)) else(none)) else(some true)
def aB3.f (k:Nat) (l0:List Int) (a1:Int) (a2:Int):Option (Bool):=aB3.l0 k a1 a2 l0 (l0.length:Int) 0
theorem aB3.mono_l:∀ k,(∀ y0 y1 y2 y3 y4,LeO (aB3.l0 k y0 y1 y2 y3 y4) (aB3.l0 (k+1) y0 y1 y2 y3 y4))
 | 0=>fun _ _ _ _ _ r h=>by simp[aB3.l0]at h
 | k+1=>by
  have ih0:=aB3.mono_l k
  ·intro y0 y1 y2 y3 y4
   unfold aB3.l0
   exact zm0
theorem aB3.mono:∀ a0 a1 a2 k,LeO (aB3.f k a0 a1 a2) (aB3.f (k+1) a0 a1 a2):=by
 intro a0 a1 a2 k;have ih0:=aB3.mono_l k;unfold aB3.f;exact zm0
theorem aB3.calls (k:Nat) (A0:Option Addr) (c0:Nat) (l0:List Int) (a1:Int) (a2:Int) (r:Bool) (w:World) (hr0:Kd.C (Kd.int .i64) w A0 l0.length l0) (hc0:l0.length≤c0) (h:aB3.f k l0 a1 a2=some r) :
  Calls Try.prog 51 #[.slice A0 l0.length c0,.int .i64 a1,.int .i64 a2] w fun e w'=>e = .returned (.bool r)∧aB8 w w':=by
 have HR0:=zK_ hr0;have HC0:=zK_ hc0;clear hr0 hc0;have H:(aB3.l0 k a1 a2 l0 (l0.length:Int) 0)=some r:=h;clear h;have H':=zK_ H;clear H;go_enter Try.func51,Try.ntmps51;go_wp2;(go_loopg [11] k (fun kq v11 w'=>∃ (bB:Int),v11 = .int .i64 bB∧Aside0 (aB3.l0 kq a1 a2 l0 (l0.length:Int) bB=some r)∧Aside0 (kq≤k)∧aB8 w w'));case atStart=>exact⟨(0),zz6,H',⟨Nat.le_refl _⟩,by repeat(first|exact aB8.refl _|apply aB8.step)⟩
 case round =>
  clear H';(try clear p2);obtain⟨bB,rfl,HA,HK1,⟨m1,rfl⟩⟩:=hrel
  cases gk with
  | zero=>exact absurd HA.out (by simp[aB3.l0])
  | succ k1 =>
   have H:=HA.out;clear HA;simp only[aB3.l0]at H;by_cases c4:bB<(l0.length:Int);rotate_left
   ·rw[if_neg c4]at H;have gJ:=decide_eq_false c4;clear c4;obtain rfl:=Option.some.inj H;go_wp2;go_ret;exact⟨zz6,by repeat(first|exact aB8.refl _|apply aB8.step)⟩
   rw[if_pos c4]at H;have gJ:=decide_eq_true c4;clear c4;by_cases c5:0≤bB;rotate_left
   ·rw[if_neg c5]at H;exact absurd H (by simp)
   rw[if_pos c5]at H;have f7:=decide_eq_true c5;clear c5;by_cases c6:bB<(l0.length:Int);rotate_left
   ·rw[if_neg c6]at H;exact absurd H (by simp)
   rw[if_pos c6]at H;have kS:=decide_eq_true c6;clear c6;obtain⟨aW,A70,H⟩:=zO_ H;(try dsimp only at H);have A7:=zK_ A70;clear A70;by_cases c8:aW=true;rotate_left
   ·replace c8:=Bool.eq_false_iff.mpr c8;subst c8;rw[if_neg (show ¬ (false=true) by decide)]at H;obtain rfl:=Option.some.inj H;have p101:0≤(bB:Int):=of_decide_eq_true zz4;have q101:bB<(l0.length:Int):=of_decide_eq_true zz4;obtain⟨dU,e101,bL⟩:=Kd.at_int HR0.out bB p101 q101;cases e101;replace p101:=eq_true p101;replace q101:=eq_true q101;(go_wp2_with (first|((with_reducible refine aAb (f:=39) rfl ?_);refine aBd (some 18) rfl rfl Try.func39 (by kernel_rfl) rfl #[.int .i64 (rd l0 bB),.int .i64 a1,.int .i64 a2] rfl zz3 ?_;(with_reducible refine(aD7.calls (rd l0 bB) a1 a2 false _ A7.out).mono ?_);rintro e w' ⟨rfl,⟨nd,rfl⟩⟩;refine⟨_,rfl,?_⟩)));go_ret;exact⟨zz6,by repeat(first|exact aB8.refl _|apply aB8.step)⟩
   subst c8;rw[if_pos rfl]at H;have H':=zK_ H;clear H;have p101:0≤(bB:Int):=of_decide_eq_true zz4;have q101:bB<(l0.length:Int):=of_decide_eq_true zz4;obtain⟨dU,e101,bL⟩:=Kd.at_int HR0.out bB p101 q101;cases e101;replace p101:=eq_true p101;replace q101:=eq_true q101;(go_wp2_with (first|((with_reducible refine aAb (f:=39) rfl ?_);refine aBd (some 18) rfl rfl Try.func39 (by kernel_rfl) rfl #[.int .i64 (rd l0 bB),.int .i64 a1,.int .i64 a2] rfl zz3 ?_;(with_reducible refine(aD7.calls (rd l0 bB) a1 a2 true _ A7.out).mono ?_);rintro e w' ⟨rfl,⟨nd,rfl⟩⟩;refine⟨_,rfl,?_⟩)));go_roundg k1;(case measure=>have:=HK1.out;omega);case rel=>exact⟨(wrap64 (bB+1)),zz6,H',⟨aG6⟩,by repeat(first|exact aB8.refl _|apply aB8.step)⟩
def aBo.l0:Nat→List (S57)→List Int→Int→Int→Int→List (S57)→Option ((List (S57)))
 | 0,_,_,_,_,_,_=>none
 | k+1,x5,x8,x9,fH,aT,aM=>if fH<x9 then(if 0≤fH then(if fH<(x8.length:Int) then(if 0≤(rd x8 fH) then(if(rd x8 fH)<(aM.length:Int) then(if x5.length<8796093022208 then(aBo.l0 k (x5++[(⟨(aA4 aM (rd x8 fH)).f0,(aA4 aM (rd x8 fH)).f1⟩:S57)]) x8 x9 (wrap64 (fH+1)) aT aM) else(none)) else(none)) else(none)) else(none)) else(none)) else(some x5)
def aBo.f (k:Nat) (aD:Int) (aC:List (S57)) (l1:List Int):Option ((List (S57))):=aBo.l0 k ([]:List (S57)) l1 (l1.length:Int) 0 aD aC
theorem aBo.mono_l:∀ k,(∀ y0 y1 y2 y3 y4 y5,LeO (aBo.l0 k y0 y1 y2 y3 y4 y5) (aBo.l0 (k+1) y0 y1 y2 y3 y4 y5))
 | 0=>fun _ _ _ _ _ _ r h=>by simp[aBo.l0]at h
 | k+1=>by
  have ih0:=aBo.mono_l k
  ·intro y0 y1 y2 y3 y4 y5
   unfold aBo.l0
   exact zm0
theorem aBo.mono:∀ a0 a1 a2 k,LeO (aBo.f k a0 a1 a2) (aBo.f (k+1) a0 a1 a2):=by
 intro a0 a1 a2 k;have ih0:=aBo.mono_l k;unfold aBo.f;exact zm0
theorem aBo.calls (k:Nat) (aD:Int) (aI:Option Addr) (aG:Nat) (aC:List (S57)) (A1:Option Addr) (c1:Nat) (l1:List Int) (r:List (S57)) (w:World) (hr0_1:Kd.C k57 w aI aC.length aC) (hc0_1:aC.length≤aG) (hr1:Kd.C (Kd.int .i64) w A1 l1.length l1) (hc1:l1.length≤c1) (h:aBo.f k aD aC l1=some r) :
  Calls Try.prog 53 #[.agg #[.int .i64 aD,.slice aI aC.length aG],.slice A1 l1.length c1] w fun e w'=>∃ v0_:Value,e = .returned (v0_)∧Kd.R k57 57 w' w.heap.size (fun _=>True) v0_ r∧Below w.heap.size w w':=by
 have hu25:=Try.underlying25;have hu57:=Try.underlying57;have b5:=zK_ hr0_1;have bT:=zK_ hc0_1;clear hr0_1 hc0_1;have HR1:=zK_ hr1;have HC1:=zK_ hc1;clear hr1 hc1;have HB:=zK_ (Below.refl w.heap.size w);have H:(aBo.l0 k ([]:List (S57)) l1 (l1.length:Int) 0 aD aC)=some r:=h;clear h;have H':=zK_ H;clear H;go_enter Try.func53,Try.ntmps53;(go_wp2_with (first|((with_reducible refine aAn (N:=2) rfl ?_);refine aAl ?hg (N:=2) ?hd (cs:=#[.int .i64 aD,.slice aI aC.length aG]) (t:=25) ?hr ?_;(case hd=>rfl);(case hg=>rfl);(case hr=>exact aCp);intro aE hg w3 hbox hb;have n_:=zA4 (aA2 zz2 hb) hbox (aDi:w.heap.size≤aE) (aDi:w.heap.size≤aE);clear HB;obtain⟨HB,aA,GW101,GE101⟩:=n_;clear hb hbox hg)));(go_loopg [5,10] k (fun kq v5 v10 w'=>∃ (k8:List (S57)) (cS:Int),v10 = .int .i64 cS∧Aside0 (aBo.l0 kq k8 l1 (l1.length:Int) cS aD aC=some r)∧Aside0 (kq≤k)∧Aside0 (Kd.R k57 57 w' w.heap.size (fun _=>True) v5 k8)∧Aside0 (w'.heap[aE]? = some (.cells #[.int .i64 aD,(.slice aI aC.length aG)] 25 (0,0)))∧Aside0 (Below w.heap.size w w')));case atStart=>exact⟨(([]:List (S57))),(0),zz6,H',⟨Nat.le_refl _⟩,⟨aRk⟩,⟨zz0⟩,⟨zz1⟩⟩
 case round =>
  clear H';(try clear c1);(try clear p2);obtain⟨k8,cS,rfl,HA,HK1,fF,aA,HB⟩:=hrel
  cases gk with
  | zero=>exact absurd HA.out (by simp[aBo.l0])
  | succ k1 =>
   have H:=HA.out;clear HA;simp only[aBo.l0]at H;by_cases c4:cS<(l1.length:Int);rotate_left
   ·rw[if_neg c4]at H;have gJ:=decide_eq_false c4;clear c4;obtain rfl:=Option.some.inj H;go_wp2;go_ret;exact⟨_,zz9,by(with_reducible repeat(first|apply Kd.R_alloc|apply Kd.R_drewN|apply Kd.R_drew));exact fF.out,zz1⟩
   rw[if_pos c4]at H;have gJ:=decide_eq_true c4;clear c4;by_cases c5:0≤cS;rotate_left
   ·rw[if_neg c5]at H;exact absurd H (by simp)
   rw[if_pos c5]at H;have f7:=decide_eq_true c5;clear c5;by_cases c6:cS<(l1.length:Int);rotate_left
   ·rw[if_neg c6]at H;exact absurd H (by simp)
   rw[if_pos c6]at H;have kS:=decide_eq_true c6;clear c6;by_cases c7:0≤(rd l1 cS);rotate_left
   ·rw[if_neg c7]at H;exact absurd H (by simp)
   rw[if_pos c7]at H;have f6:=decide_eq_true c7;clear c7;by_cases c8:(rd l1 cS)<(aC.length:Int);rotate_left
   ·rw[if_neg c8]at H;exact absurd H (by simp)
   rw[if_pos c8]at H;have iH:=decide_eq_true c8;clear c8;by_cases c9:k8.length<8796093022208;rotate_left
   ·rw[if_neg c9]at H;exact absurd H (by simp)
   rw[if_pos c9]at H;have KW:=zK_ c9;clear c9;obtain⟨pW,hy_⟩:∃ y_:List (S57),y_=(k8++[(⟨(aA4 aC (rd l1 cS)).f0,(aA4 aC (rd l1 cS)).f1⟩:S57)]):=⟨_,rfl⟩;(replace H:(aBo.l0 k1 pW l1 (l1.length:Int) (wrap64 (cS+1)) aD aC)=some r:=zzY);have oW:=zK_ hy_;clear hy_;have H':=zK_ H;clear H;have p102:0≤(cS:Int):=of_decide_eq_true zz4;have q102:cS<(l1.length:Int):=of_decide_eq_true zz4;obtain⟨fL,e102,bP⟩:=Kd.at_int HR1.out cS p102 q102;cases e102;replace bP:=(HB.out.cell (World.block_lt_of_cell? w _ bP)).trans bP;replace p102:=eq_true p102;replace q102:=eq_true q102;have eB:=aC7 aA;have d9:=aC6 aA;have d6:=aA0 aA.out 0;have d5:=aA0 aA.out 1;have p103:0≤((rd l1 cS):Int):=of_decide_eq_true zz4;have q103:(rd l1 cS)<(aC.length:Int):=of_decide_eq_true zz4;obtain⟨bR,e103,aX,bG⟩:=aCo b5.out (rd l1 cS) p103 q103;cases e103;replace aX:=(HB.out.cell (World.block_lt_of_cell? w _ aX)).trans aX;replace bG:=(HB.out.cell (World.block_lt_of_cell? w _ bG)).trans bG;replace p103:=eq_true p103;replace q103:=eq_true q103;(go_wp2_with (first|((with_reducible refine aB4 (b:=.append) (xs:=#[.tmp 14,.tmp 20]) rfl ?_);at_builtin;refine Kd.R_append k57 (w0:=w) w.heap.size rfl (.tmp 14) (.tmp 20) 23 57 (.agg #[(.int .i64 0),(.int .i64 0)]) 16 rfl Try.underlying23 aFk rfl (by decide) (by omega) u5 k8 (⟨(aA4 aC (rd l1 cS)).f0,(aA4 aC (rd l1 cS)).f1⟩:S57) [.int .i64 ((aA4 aC (rd l1 cS)).f0),.int .i64 ((aA4 aC (rd l1 cS)).f1)] (fun _=>True) (fun _=>False) rfl rfl ?aP (fun _ hk=>hk.elim) ?aF ?aO ?aB ?aS ?aL ?_;(case aP=>exact aEf _ _ _ (⟨(aA4 aC (rd l1 cS)).f0,(aA4 aC (rd l1 cS)).f1⟩:S57));(case aB=>exact zz1);(case aF=>exact(fun _ _=>trivial));(case aO=>exact aTd);(case aS=>exact(aAd zz1));(case aL=>have:=KW.out;omega);intro v105 w11 ho hb hg hat;rw[← oW.out]at ho;have n_:=zA3 (aAk (g:=aE) (o:=.cells #[.int .i64 aD,.slice (some bR) aC.length aG] 25 (0,0)) zz0 hg (Kd.R_ne fF.out aA.out (by decide))) hb ho;clear aA HB fF;obtain⟨aA,HB,mD⟩:=n_;clear ho hb hg hat)));go_roundg k1;(case measure=>have:=HK1.out;omega);case rel=>exact⟨(pW),(wrap64 (cS+1)),zz6,H',⟨aG6⟩,⟨by(with_reducible repeat(first|apply Kd.R_alloc|apply Kd.R_drewN|apply Kd.R_drew));exact mD.out⟩,⟨zz0⟩,⟨zz1⟩⟩
end Go.Proofs.Ytnbljcgdgblgoaa.P
end
