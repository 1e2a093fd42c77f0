/- A part of the proof of aE2. -/
import Derived.Test.YtfdaopkbibbhbaaBFnGroups1
import Derived.Test.YtfdaopkbibbhbaaBFnGroups0
import Derived.Test.YtfdaopkbibbhbaaBFnGroupsWWords
import Derived.Test.YtfdaopkbibbhbaaBFnGroupsWMore
import Derived.Laws.BitsLemmas
import Derived.StillTailTactics
set_option linter.unusedVariables false
set_option linter.unusedSimpArgs false
set_option maxHeartbeats 8000000
set_option maxRecDepth 100000
namespace Go.Proofs.Ytfdaopkbibbhbaa
open Go.RowKit Go.Proofs.YtfdaopkbibbhbaaW.PrintWords Go.Proofs.YtfdaopkbibbhbaaW.PrintLast Go.Proofs.YtfdaopkbibbhbaaW.PrintMore
attribute [local go_sem] max2_int min2_int max_two min_two max_three min_three max_four min_four
namespace P
mutual
def aBd.j0:Nat->Bool->Int->List (S73)->Option (Bool)
 | 0,_,_,_=>none
 | k+1,oO,aU,aM=>if oO=true then(some false) else(aBd.l0 k aM (aM.length:Int) 0 aU aM)
def aBd.l0:Nat->List (S73)->Int->Int->Int->List (S73)->Option (Bool)
 | 0,_,_,_,_,_=>none
 | k+1,lZ,kW,kR,aU,aM=>if kR<kW then(if 0<=kR then(if kR<(lZ.length:Int) then(if((aA2 lZ kR).f0)<0 then(some false) else(if((aA2 lZ kR).f0)≥((aA2 lZ kR).f1) then(some false) else(if((aA2 lZ kR).f1)≥aU then(some false) else(aBd.l0 k lZ kW (wrap64 (kR+1)) aU aM)))) else(none)) else(none)) else(some true)
end
def aBd.f (k:Nat) (aE:Int) (aC:List (S73)):Option (Bool):=(aDs.f aE 1 6).bind λaX=>(if aX=true then(aBd.j0 k (decide ((aC.length:Int)>12)) aE aC) else(aBd.j0 k true aE aC))
theorem aBd.aBa:∀ k,(∀ y0 y1 y2,LeO (aBd.j0 k y0 y1 y2) (aBd.j0 (k+1) y0 y1 y2))/\(∀ y0 y1 y2 y3 y4,LeO (aBd.l0 k y0 y1 y2 y3 y4) (aBd.l0 (k+1) y0 y1 y2 y3 y4))
 | 0=>⟨λ_ _ _ r h=>by simp[aBd.j0]at h,λ_ _ _ _ _ r h=>by simp[aBd.l0]at h⟩
 | k+1=>by
  obtain⟨ih0,ih1⟩:=aBd.aBa k
  refine⟨?_,?_⟩
  ·intro y0 y1 y2
   unfold aBd.j0
   exact zm1
  ·intro y0 y1 y2 y3 y4
   unfold aBd.l0
   exact zm1
theorem aBd.mono:∀ a0 a1 k,LeO (aBd.f k a0 a1) (aBd.f (k+1) a0 a1):=by
 intro a0 a1 k;obtain⟨ih0,ih1⟩:=aBd.aBa k;unfold aBd.f;exact zm1
theorem aBd.calls (k:Nat) (aE:Int) (aQ:Option Addr) (aG:Nat) (aC:List (S73)) (r:Bool) (w:World) (hr0_1:Kd.C k73 w aQ aC.length aC) (hc0_1:aC.length<=aG) (h:aBd.f k aE aC=some r) :
  Calls Try.prog 83 #[.agg #[.int .i64 aE,.slice aQ aC.length aG]] w λe w'=>e = .returned (.bool r)/\Below w.heap.size w w':=by
 have aIh:=Try.underlying25;have aUl:=Try.underlying73;have b7:=zK_ hr0_1;have bY:=zK_ hc0_1;clear hr0_1 hc0_1;have HB:=zK_ (Below.refl w.heap.size w);have H:((aDs.f aE 1 6).bind λaX=>(if aX=true then(aBd.j0 k (decide ((aC.length:Int)>12)) aE aC) else(aBd.j0 k true aE aC)))=some r:=h;clear h;have HC2:=zK_ H;clear H;go_enter Try.func83,Try.ntmps83;(go_upto_region 1 with (first|((with_reducible refine aAw (N:=1) rfl ?_);(try(refine aBu (by rfl) ?_;dsimp only));refine aAq ?hg (N:=1) ?hd (cs:=#[.int .i64 aE,.slice aQ aC.length aG]) (t:=25) ?hr ?_;(case hd=>rfl);(case hg=>rfl);(case hr=>exact aDq);intro aD hg w3 hbox hb;have n_:=zA4 (aA3 zz2 hb) hbox (aE1:w.heap.size<=aD) (aE1:w.heap.size<=aD);clear HB;obtain⟨HB,aA,aDt,aDe⟩:=n_;clear hb hbox hg)));(try simp only[Act.put,List.setIfInBounds_toArray,List.set_cons_zero,List.set_cons_succ]);go_cut [14] (λv14 wc=>∃ (kq:Nat) (dK:Bool),v14 = .bool dK/\aA1 (aBd.j0 kq dK aE aC=some r)/\aA1 (kq<=k)/\aA1 (wc.heap[aD]? = some (.cells #[.int .i64 aE,(.slice aQ aC.length aG)] 25 (0,0)))/\aA1 (Below w.heap.size w wc))
 case first =>
  have H:=HC2.out;clear HC2;obtain⟨aX,A40,H⟩:=zO_ H;(try dsimp only at H);have A4:=zK_ A40;clear A40;by_cases c5:aX=true
  ·subst c5;rw[if_pos rfl]at H;have H':=zK_ H;clear H;have jK:=aCg aA;have jJ:=aCf aA;have jI:=aA0 aA.out 0;have jH:=aA0 aA.out 1;(go_wp2_with (first|((with_reducible refine aAa (f:=79) rfl ?_);refine aBg (some 7) rfl rfl Try.func79 (by kernel_rfl) rfl #[.int .i64 aE,.int .i64 1,.int .i64 6] rfl zz3 ?_;(with_reducible refine(aDs.calls aE 1 6 true _ A4.out).mono ?_);rintro e w' ⟨rfl,⟨nd,rfl⟩⟩;refine⟨_,rfl,?_⟩)));(go_meet);case rel=>exact⟨_,(decide ((aC.length:Int)>12)),zz5,H',⟨by first|omega|exact Nat.le_refl _⟩,⟨zz0⟩,⟨zz1⟩⟩
  replace c5:=zdB c5;subst c5;rw[if_neg (show ¬ (false=true) by decide)]at H;have H':=zK_ H;clear H;have iH:=aCg aA;have iG:=aCf aA;have iF:=aA0 aA.out 0;have iE:=aA0 aA.out 1;(go_wp2_with (first|((with_reducible refine aAa (f:=79) rfl ?_);refine aBg (some 7) rfl rfl Try.func79 (by kernel_rfl) rfl #[.int .i64 aE,.int .i64 1,.int .i64 6] rfl zz3 ?_;(with_reducible refine(aDs.calls aE 1 6 false _ A4.out).mono ?_);rintro e w' ⟨rfl,⟨nd,rfl⟩⟩;refine⟨_,rfl,?_⟩)));(go_meet);case rel=>exact⟨_,(true),zz5,H',⟨by first|omega|exact Nat.le_refl _⟩,⟨zz0⟩,⟨zz1⟩⟩
 case rest =>
  clear HC2;(try clear p2);(try clear c5);(try clear c7);(try clear jK);(try clear jJ);(try clear iH);(try clear iG);(try clear jI);(try clear jH);(try clear iF);(try clear iE);obtain⟨kq,dK,rfl,HA,HJ1,aA,HB⟩:=hcut
  cases kq with
  | zero=>exact absurd HA.out (by simp[aBd.j0])
  | succ kj1 =>
   have H:=HA.out;clear HA;simp only[aBd.j0]at H;by_cases c8:dK=true
   ·subst c8;rw[if_pos rfl]at H;obtain rfl:=zdI H;go_wp2;go_ret;exact⟨zz9,zz1⟩
   replace c8:=zdB c8;subst c8;rw[if_neg (show ¬ (false=true) by decide)]at H;have H':=zK_ H;clear H;have iZ:=aCg aA;have iY:=aCf aA;have iX:=aA0 aA.out 0;have iW:=aA0 aA.out 1;go_wp2;(go_loopg [18] kj1 (λkq v18 w'=>∃ (cE:Int),v18 = .int .i64 cE/\aA1 (aBd.l0 kq aC (aC.length:Int) cE aE aC=some r)/\aA1 (kq<=kj1)/\aA1 (w'.heap[aD]? = some (.cells #[.int .i64 aE,(.slice aQ aC.length aG)] 25 (0,0)))/\aA1 (Below w.heap.size w w')));case atStart=>exact⟨(0),zz5,H',⟨Nat.le_refl _⟩,⟨zz0⟩,⟨zz1⟩⟩
   case round =>
    clear H';(try clear p2);(try clear c5);(try clear c7);(try clear c8);(try clear jK);(try clear jJ);(try clear iH);(try clear iG);(try clear iZ);(try clear iY);(try clear jI);(try clear jH);(try clear iF);(try clear iE);(try clear iX);(try clear iW);(try clear p2);obtain⟨cE,rfl,HA,HK2,aA,HB⟩:=hrel
    cases gk with
    | zero=>exact absurd HA.out (by simp[aBd.l0])
    | succ k2 =>
     have H:=HA.out;clear HA;simp only[aBd.l0]at H;by_cases c10:cE<(aC.length:Int);rotate_left
     ·rw[if_neg c10]at H;have gN:=zdN c10;clear c10;obtain rfl:=zdI H;go_wp2;go_ret;exact⟨zz9,zz1⟩
     rw[if_pos c10]at H;have gN:=zdY c10;clear c10;by_cases c11:0<=cE;rotate_left
     ·rw[if_neg c11]at H;exact absurd H (by simp)
     rw[if_pos c11]at H;have oU:=zdY c11;clear c11;by_cases c12:cE<(aC.length:Int);rotate_left
     ·rw[if_neg c12]at H;exact absurd H (by simp)
     rw[if_pos c12]at H;have oT:=zdY c12;clear c12;by_cases c13:((aA2 aC cE).f0)<0
     ·rw[if_pos c13]at H;have jU:=zdY c13;clear c13;obtain rfl:=zdI H;have aF6:0<=(cE:Int):=zdT zz4;have aF5:cE<(aC.length:Int):=zdT zz4;obtain⟨bW,aJ1,bJ,bT⟩:=aDi b7.out cE aF6 aF5;cases aJ1;replace bJ:=(HB.out.cell (World.block_lt_of_cell? w _ bJ)).trans bJ;replace bT:=(HB.out.cell (World.block_lt_of_cell? w _ bT)).trans bT;replace aF6:=eq_true aF6;replace aF5:=eq_true aF5;(go_wp2_with (first|((with_reducible refine aAw (N:=4) rfl ?_);(try(refine aBu (by rfl) ?_;dsimp only));refine aAq ?hg (N:=4) ?hd (cs:=#[.int .i64 0,.int .i64 0]) (t:=73) ?hr ?_;(case hd=>rfl);(case hg=>rfl);(case hr=>exact aDq);intro bC hg w14 hbox hb;have n_:=zA7 (aA4 (g:=aD) (o:=.cells #[.int .i64 aE,.slice (some bW) aC.length aG] 25 (0,0)) zz0 hb) (aA3 zz1 hb) hbox (aFb:w.heap.size<=bC) (aFb:w.heap.size<=bC) (aSw:aD≠bC) (aSv:bC≠aD);clear aA HB;obtain⟨aA,HB,bK,aLs,aK7,cD,cI⟩:=n_;clear hb hbox hg;have OM:=cI.out;have NH:=cD.out;have n7:=aCg bK;have n5:=aCf bK;have nT:=aA0 bK.out 0;have nS:=aA0 bK.out 1)));go_ret;exact⟨zz9,aNs⟩
     rw[if_neg c13]at H;have jU:=zdN c13;clear c13;by_cases c17:((aA2 aC cE).f0)≥((aA2 aC cE).f1)
     ·rw[if_pos c17]at H;have l8:decide (((aA2 aC cE).f1)<=((aA2 aC cE).f0))=true:=zdY c17;clear c17;obtain rfl:=zdI H;have aF6:0<=(cE:Int):=zdT zz4;have aF5:cE<(aC.length:Int):=zdT zz4;obtain⟨bW,aJ1,bJ,bT⟩:=aDi b7.out cE aF6 aF5;cases aJ1;replace bJ:=(HB.out.cell (World.block_lt_of_cell? w _ bJ)).trans bJ;replace bT:=(HB.out.cell (World.block_lt_of_cell? w _ bT)).trans bT;replace aF6:=eq_true aF6;replace aF5:=eq_true aF5;(go_wp2_with (first|((with_reducible refine aAw (N:=4) rfl ?_);(try(refine aBu (by rfl) ?_;dsimp only));refine aAq ?hg (N:=4) ?hd (cs:=#[.int .i64 0,.int .i64 0]) (t:=73) ?hr ?_;(case hd=>rfl);(case hg=>rfl);(case hr=>exact aDq);intro bC hg w18 hbox hb;have n_:=zA7 (aA4 (g:=aD) (o:=.cells #[.int .i64 aE,.slice (some bW) aC.length aG] 25 (0,0)) zz0 hb) (aA3 zz1 hb) hbox (aFb:w.heap.size<=bC) (aFb:w.heap.size<=bC) (aSw:aD≠bC) (aSv:bC≠aD);clear aA HB;obtain⟨aA,HB,bK,aLs,aK7,cD,cI⟩:=n_;clear hb hbox hg;have xH:=cI.out;have xD:=cD.out;have pO:=aCg bK;have pN:=aCf bK;have pC:=aA0 bK.out 0;have pA:=aA0 bK.out 1)));go_ret;exact⟨zz9,aNs⟩
     rw[if_neg c17]at H;have l8:decide (((aA2 aC cE).f1)<=((aA2 aC cE).f0))=false:=zdN c17;clear c17;by_cases c21:((aA2 aC cE).f1)≥aE
     ·rw[if_pos c21]at H;have qR:decide (aE<=((aA2 aC cE).f1))=true:=zdY c21;clear c21;obtain rfl:=zdI H;have aF6:0<=(cE:Int):=zdT zz4;have aF5:cE<(aC.length:Int):=zdT zz4;obtain⟨bW,aJ1,bJ,bT⟩:=aDi b7.out cE aF6 aF5;cases aJ1;replace bJ:=(HB.out.cell (World.block_lt_of_cell? w _ bJ)).trans bJ;replace bT:=(HB.out.cell (World.block_lt_of_cell? w _ bT)).trans bT;replace aF6:=eq_true aF6;replace aF5:=eq_true aF5;(go_wp2_with (first|((with_reducible refine aAw (N:=4) rfl ?_);(try(refine aBu (by rfl) ?_;dsimp only));refine aAq ?hg (N:=4) ?hd (cs:=#[.int .i64 0,.int .i64 0]) (t:=73) ?hr ?_;(case hd=>rfl);(case hg=>rfl);(case hr=>exact aDq);intro bC hg w22 hbox hb;have n_:=zA7 (aA4 (g:=aD) (o:=.cells #[.int .i64 aE,.slice (some bW) aC.length aG] 25 (0,0)) zz0 hb) (aA3 zz1 hb) hbox (aFb:w.heap.size<=bC) (aFb:w.heap.size<=bC) (aSw:aD≠bC) (aSv:bC≠aD);clear aA HB;obtain⟨aA,HB,bK,aLs,aK7,cD,cI⟩:=n_;clear hb hbox hg;have OI:=cI.out;have ND:=cD.out;have n4:=aCg bK;have n0:=aCf bK;have nR:=aA0 bK.out 0;have nQ:=aA0 bK.out 1;have f3:=aCg aA;have fZ:=aCf aA;have fW:=aA0 aA.out 0;have fV:=aA0 aA.out 1)));go_ret;exact⟨zz9,aNs⟩
     rw[if_neg c21]at H;have qR:decide (aE<=((aA2 aC cE).f1))=false:=zdN c21;clear c21;have H':=zK_ H;clear H;have aF6:0<=(cE:Int):=zdT zz4;have aF5:cE<(aC.length:Int):=zdT zz4;obtain⟨bW,aJ1,bJ,bT⟩:=aDi b7.out cE aF6 aF5;cases aJ1;replace bJ:=(HB.out.cell (World.block_lt_of_cell? w _ bJ)).trans bJ;replace bT:=(HB.out.cell (World.block_lt_of_cell? w _ bT)).trans bT;replace aF6:=eq_true aF6;replace aF5:=eq_true aF5;(go_wp2_with (first|((with_reducible refine aAw (N:=4) rfl ?_);(try(refine aBu (by rfl) ?_;dsimp only));refine aAq ?hg (N:=4) ?hd (cs:=#[.int .i64 0,.int .i64 0]) (t:=73) ?hr ?_;(case hd=>rfl);(case hg=>rfl);(case hr=>exact aDq);intro bC hg w26 hbox hb;have n_:=zA7 (aA4 (g:=aD) (o:=.cells #[.int .i64 aE,.slice (some bW) aC.length aG] 25 (0,0)) zz0 hb) (aA3 zz1 hb) hbox (aFb:w.heap.size<=bC) (aFb:w.heap.size<=bC) (aSw:aD≠bC) (aSv:bC≠aD);clear aA HB;obtain⟨aA,HB,bK,aLs,aK7,cD,cI⟩:=n_;clear hb hbox hg;have AH:=cI.out;have zW:=cD.out;have sL:=aCg bK;have sK:=aCf bK;have sD:=aA0 bK.out 0;have sC:=aA0 bK.out 1;have nZ:=aCg aA;have nY:=aCf aA;have nP:=aA0 aA.out 0;have nO:=aA0 aA.out 1)));go_roundg k2;(case measure=>have:=HJ1.out;have:=HK2.out;omega);case rel=>exact⟨(wrap64 (cE+1)),zz5,H',⟨by have:=HJ1.out;have:=HK2.out;omega⟩,⟨aZi⟩,⟨aNs⟩⟩
end P
namespace Cf
def Ep {α:Type} (g:Nat->Option α) (Q:α->Prop):Prop:=∃ r,Q r/\∃ K,∀ k,K<=k->g k=some r
theorem Ep.now {α:Type} {Q:α->Prop} {r:α} (h:Q r):Ep (λ_=>some r) Q:=⟨r,h,0,λ_ _=>rfl⟩
theorem Ep.mono {α:Type} {g:Nat->Option α} {P Q:α->Prop} (h:Ep g P) (hpq:∀ r,P r->Q r):Ep g Q:=by
 obtain⟨r,hr,K,hK⟩:=h
 exact⟨r,hpq r hr,K,hK⟩
theorem Ep.step {α:Type} {g f:Nat->Option α} {Q:α->Prop} (h:∀ k,g (k+1)=f k) (k:Ep f Q):Ep g Q:=by
 obtain⟨r,hr,K,hK⟩:=k
 refine⟨r,hr,K+1,λk hk=>?_⟩
 obtain⟨m,rfl⟩:∃ m,k=m+1:=⟨k-1,by omega⟩
 rw[h m]
 exact hK m (by omega)
theorem Ep.up {α:Type} {g:Nat->Option α} {Q:α->Prop} (h:Ep (λk=>g (k+1)) Q):Ep g Q:=Ep.step (λ_=>rfl) h
theorem Ep.congr {α:Type} {g f:Nat->Option α} {Q:α->Prop} (h:∀ k,g k=f k) (k:Ep f Q):Ep g Q:=by
 obtain⟨r,hr,K,hK⟩:=k
 exact⟨r,hr,K,λk hk=>(h k).trans (hK k hk)⟩
theorem Ep.bind {α β:Type} {g:Nat->Option α} {f:Nat->α->Option β} {P:α->Prop} {Q:β->Prop} (h:Ep g P) (k:∀ a,P a->Ep (λn=>f n a) Q):Ep (λn=>(g n).bind (f n)) Q:=by
 obtain⟨r,hr,K,hK⟩:=h
 obtain⟨q,hq,L,hL⟩:=k r hr
 refine⟨q,hq,max K L,λk hk=>?_⟩
 show (g k).bind (f k)=some q
 rw[hK k (by omega)]
 exact hL k (by omega)
theorem Ep.aEu {α β:Type} {g:Option α} {f:Nat->α->Option β} {a:α} {Q:β->Prop} (h:g=some a) (k:Ep (λn=>f n a) Q):Ep (λn=>g.bind (f n)) Q:=by
 subst h
 exact k
theorem Ep.ite {α:Type} {c:Prop} [Decidable c] {f g:Nat->Option α} {Q:α->Prop} (h:c->Ep f Q) (k:¬ c->Ep g Q):Ep (λn=>if c then f n else g n) Q:=by
 by_cases hc:c
 ·simp only[hc,if_true]
  exact h hc
 ·simp only[hc,if_false]
  exact k hc
theorem Ep.pos {α:Type} {c:Prop} [Decidable c] {f g:Nat->Option α} {Q:α->Prop} (hc:c) (h:Ep f Q):Ep (λn=>if c then f n else g n) Q:=Ep.ite (λ_=>h) (λk=>absurd hc k)
theorem Ep.neg {α:Type} {c:Prop} [Decidable c] {f g:Nat->Option α} {Q:α->Prop} (hc:¬ c) (h:Ep g Q):Ep (λn=>if c then f n else g n) Q:=Ep.ite (λk=>absurd k hc) (λ_=>h)
theorem Ep.rounds {α:Type} {g:Nat->Option α} {r:α} (h:Ep g (·=r)):∃ k,g k=some r:=by
 obtain⟨q,rfl,K,hK⟩:=h
 exact⟨K,hK K (Nat.le_refl _)⟩
def Wf (k:IntKind) (x:Int):Prop:=(Lit.int k x).wf=true
theorem Wf.i64 {x:Int} (h:Wf .i64 x):-9223372036854775808<=x/\x<=9223372036854775807:=by
 simpa[Wf,Lit.wf,IntKind.min,IntKind.max,IntKind.signed,IntKind.bits]using h
theorem Wf.u8 {x:Int} (h:Wf .u8 x):0<=x/\x<=255:=by
 simpa[Wf,Lit.wf,IntKind.min,IntKind.max,IntKind.signed,IntKind.bits]using h
def SL {α:Type} (Q:α->Prop) (l:List α):Prop:=l.length<=9223372036854775807/\∀ x∈l,Q x
theorem aCv {x:Int} (h0:-9223372036854775808<=x) (h1:x<=9223372036854775807):wrap64 x=x:=by
 unfold wrap64
 omega
theorem aTy (xs:List Int) (i:Nat):rd xs (i:Int)=xs.getD i 0:=by simp[rd]
theorem aEh {xs:List Int} {i:Nat} (h:i<xs.length):rd xs (i:Int)=xs[i]:=by simp[rd,List.getD,h]
def Adj (es:List E) (a b:Int):Prop:=∃ e∈es,(e.f0=a/\e.f1=b)∨(e.f0=b/\e.f1=a)
theorem Adj.symm {es:List E} {a b:Int} (h:Adj es a b):Adj es b a:=by
 obtain⟨e,he,h⟩:=h
 exact⟨e,he,h.symm⟩
inductive aGp (es:List E) (a:Int):Int->Prop
 | refl:aGp es a a
 | tail {b c:Int}:aGp es a b->Adj es b c->aGp es a c
theorem aGp.trans {es:List E} {a b c:Int} (h:aGp es a b) (k:aGp es b c):aGp es a c:=by
 induction k with
 | refl=>exact h
 | tail _ aIi ih=>exact ih.tail aIi
theorem aGp.one {es:List E} {a b:Int} (h:Adj es a b):aGp es a b:=aGp.refl.tail h
theorem aGp.symm {es:List E} {a b:Int} (h:aGp es a b):aGp es b a:=by
 induction h with
 | refl=>exact .refl
 | tail _ aIi ih=>exact(aGp.one aIi.symm).trans ih
theorem aGp.sub {es fs:List E} (hs:∀ e∈es,e∈fs) {a b:Int} (h:aGp es a b):aGp fs a b:=by
 induction h with
 | refl=>exact .refl
 | tail _ aIi ih =>
  obtain⟨e,he,hx⟩:=aIi
  exact ih.tail ⟨e,hs e he,hx⟩
theorem aGp.closed {es:List E} {S:Int->Prop} (hS:∀ a b,S a->Adj es a b->S b) {a b:Int} (h:aGp es a b) (ha:S a):S b:=by
 induction h with
 | refl=>exact ha
 | tail _ aIi ih=>exact hS _ _ ih aIi
def EOk (n:Int) (e:E):Prop:=0<=e.f0/\e.f0<e.f1/\e.f1<n
instance bIh (n:Int) (e:E):Decidable (EOk n e):=by unfold EOk;infer_instance
def aHb (n:Int) (es:List E):Prop:=1<=n/\n<=6/\es.length<=12/\∀ e∈es,EOk n e
instance bH6 (n:Int) (es:List E):Decidable (aHb n es):=by unfold aHb;infer_instance
def leE (a b:E):Prop:=a.f0<b.f0∨(a.f0=b.f0/\a.f1<=b.f1)
instance bIg (a b:E):Decidable (leE a b):=by unfold leE;infer_instance
def Sorted (es:List E):Prop:=∀ i,(h:i+1<es.length)->leE es[i] es[i+1]
def Joined (n:Int) (es:List E):Prop:=∀ v,0<=v->v<n->aGp es 0 v
def GOk (n:Int) (es:List E):Prop:=aHb n es/\Sorted es/\Joined n es
instance bEk (es:List E):Decidable (Sorted es):=decidable_of_iff (∀ i,(h:i<es.length-1)->leE (es[i]'(by omega)) (es[i+1]'(by omega))) ⟨λh i hi=>h i (by omega),λh i hi=>h i (by omega)⟩
theorem aHb.adj {n:Int} {es:List E} (h:∀ e∈es,EOk n e) {a b:Int} (hab:Adj es a b):0<=b/\b<n:=by
 obtain⟨e,he,hx⟩:=hab
 have:=h e he
 unfold EOk at this
 omega
theorem aHb.conn {n:Int} {es:List E} (h:∀ e∈es,EOk n e) {a b:Int} (ha:0<=a/\a<n) (hab:aGp es a b):0<=b/\b<n :=
 hab.closed (S:=λx=>0<=x/\x<n) (λ_ _ _ aIi=>aHb.adj h aIi) ha
def stepM (m:Nat) (e:E):Nat:=if m.testBit e.f0.toNat||m.testBit e.f1.toNat then m ||| (2^e.f0.toNat ||| 2^e.f1.toNat) else m
def aF2 (es:List E) (m:Nat):Nat:=es.foldl stepM m
def aGf (es:List E):Nat->Nat->Nat
 | 0,m=>m
 | k+1,m=>aGf es k (aF2 es m)
theorem aHf {m:Nat} {e:E} {i:Nat}:(stepM m e).testBit i=(m.testBit i||((m.testBit e.f0.toNat||m.testBit e.f1.toNat)&&(i==e.f0.toNat||i==e.f1.toNat))):=by
 unfold stepM
 by_cases h:(m.testBit e.f0.toNat||m.testBit e.f1.toNat)=true
 ·rw[if_pos h,h]
  simp only[Nat.testBit_or,Nat.testBit_two_pow,Bool.true_and]
  congr 1
  rw[Bool.eq_iff_iff]
  simp only[Bool.or_eq_true,decide_eq_true_eq,beq_iff_eq]
  omega
 ·rw[if_neg h]
  simp only[Bool.not_eq_true]at h
  rw[h]
  simp
theorem aNw {m:Nat} {e:E} {i:Nat} (h:m.testBit i=true):(stepM m e).testBit i=true:=by rw[aHf,h];rfl
theorem aHv (es:List E):∀ {m:Nat} {i:Nat},m.testBit i=true->(aF2 es m).testBit i=true:=by
 induction es with
 | nil=>intro m i h;exact h
 | cons e r ih=>intro m i h;exact ih (aNw h)
theorem aMb (es:List E):∀ (k:Nat) {m:Nat} {i:Nat},m.testBit i=true->(aGf es k m).testBit i=true
 | 0,_,_,h=>h
 | k+1,_,_,h=>aMb es k (aHv es h)
def MOk (es:List E) (n:Int) (m:Nat):Prop:=∀ i:Nat,m.testBit i=true->(i:Int)<n/\aGp es 0 i
theorem step_ok {es:List E} {n:Int} {m:Nat} {e:E} (he:e∈es) (hk:EOk n e) (h:MOk es n m):MOk es n (stepM m e):=by
 intro i hi
 rw[aHf]at hi
 simp only[Bool.or_eq_true,Bool.and_eq_true,beq_iff_eq]at hi
 unfold EOk at hk
 have e0:((e.f0.toNat:Nat):Int)=e.f0:=by omega
 have e1:((e.f1.toNat:Nat):Int)=e.f1:=by omega
 rcases hi with hi|⟨hm,hi⟩
 ·exact h i hi
 ·have key:aGp es 0 e.f0/\aGp es 0 e.f1:=by
   rcases hm with hm|hm
   ·have:=(h _ hm).2
    rw[e0]at this
    exact⟨this,this.tail ⟨e,he,.inl ⟨rfl,rfl⟩⟩⟩
   ·have:=(h _ hm).2
    rw[e1]at this
    exact⟨this.tail ⟨e,he,.inr ⟨rfl,rfl⟩⟩,this⟩
  rcases hi with hi|hi
  ·subst hi
   rw[e0]
   exact⟨by omega,key.1⟩
  ·subst hi
   rw[e1]
   exact⟨by omega,key.2⟩
theorem aQs {es:List E} {n:Int} (hes:∀ e∈es,EOk n e):∀ (fs:List E),(∀ e∈fs,e∈es)->∀ {m:Nat},MOk es n m->MOk es n (aF2 fs m):=by
 intro fs
 induction fs with
 | nil=>intro _ m h;exact h
 | cons e r ih =>
  intro hs m h
  have he:=hs e (List.mem_cons_self)
  exact ih (λx hx=>hs x (List.mem_cons_of_mem _ hx)) (step_ok he (hes e he) h)
theorem aQj {es:List E} {n:Int} (hes:∀ e∈es,EOk n e):∀ (k:Nat) {m:Nat},MOk es n m->MOk es n (aGf es k m)
 | 0,_,h=>h
 | k+1,_,h=>aQj hes k (aQs hes es (λ_ h=>h) h)
def cnt (n:Nat) (m:Nat):Nat:=(List.range n).countP (m.testBit ·)
theorem cnt_le (n m:Nat):cnt n m<=n:=by
 unfold cnt
 have:=List.countP_le_length (p:=λi=>m.testBit i) (l:=List.range n)
 simpa using this
theorem aJ3 {α:Type} {p q:α->Bool}:∀ {l:List α},(∀ x∈l,p x=true->q x=true)->(∃ x∈l,p x=false/\q x=true)->l.countP p<l.countP q
 | [],_,h=>by obtain⟨x,hx,_⟩:=h;cases hx
 | y::r,hpq,h=>by
  have hle:r.countP p<=r.countP q:=List.countP_mono_left (λx hx=>hpq x (List.mem_cons_of_mem _ hx))
  simp only[List.countP_cons]
  by_cases hy:p y=false/\q y=true
  ·rw[hy.1,hy.2]
   simp
   omega
  ·have hr:r.countP p<r.countP q:=by
    apply aJ3 (λx hx=>hpq x (List.mem_cons_of_mem _ hx))
    obtain⟨x,hx,h1⟩:=h
    rcases List.mem_cons.1 hx with rfl|hx
    ·exact absurd h1 hy
    ·exact⟨x,hx,h1⟩
   have h2:=hpq y List.mem_cons_self
   by_cases hp:p y=true
   ·rw[hp,h2 hp]
    simp
    omega
   ·simp only[hp,if_false,Bool.not_eq_true]at *
    simp
    split<;>omega
theorem cnt_lt {n m m':Nat} (h:∀ i,m.testBit i=true->m'.testBit i=true) (hx:∃ i,i<n/\m.testBit i=false/\m'.testBit i=true):cnt n m<cnt n m':=by
 obtain⟨i,hi,h1⟩:=hx
 exact aJ3 (λx _=>h x) ⟨i,List.mem_range.2 hi,h1⟩
theorem aM0 {es:List E}:∀ (fs:List E) {m:Nat},(∀ i,(aF2 fs m).testBit i=true->m.testBit i=true)->∀ e∈fs,m.testBit e.f0.toNat=m.testBit e.f1.toNat:=by
 intro fs
 induction fs with
 | nil=>intro m _ e he;cases he
 | cons a r ih =>
  intro m h e he
  have hst:∀ i,(stepM m a).testBit i=true->m.testBit i=true:=λi hi=>h i (aHv r hi)
  have heq:stepM m a=m:=by
   apply Nat.eq_of_testBit_eq
   intro i
   rw[Bool.eq_iff_iff]
   exact⟨hst i,aNw⟩
  rcases List.mem_cons.1 he with rfl|he
  ·have h0:=hst e.f0.toNat
   have h1:=hst e.f1.toNat
   rw[aHf]at h0 h1
   simp only[beq_self_eq_true,Bool.true_or,Bool.or_true,Bool.and_true,Bool.or_eq_true]at h0 h1
   rw[Bool.eq_iff_iff]
   exact⟨λhx=>h1 (.inr (.inl hx)),λhx=>h0 (.inr (.inr hx))⟩
  ·have:aF2 (a::r) m=aF2 r m:=by show aF2 r (stepM m a)=_;rw[heq]
   exact ih (λi hi=>h i (by rw[this];exact hi)) e he
theorem aNj {es:List E} {n:Int} (hes:∀ e∈es,EOk n e) {m:Nat} (h:∀ i,(aF2 es m).testBit i=true->m.testBit i=true) (h0:m.testBit 0=true) (i:Nat) (hi:aGp es 0 i):m.testBit i=true:=by
 have hf:=aM0 (es:=es) es h
 have key:∀ v:Int,aGp es 0 v->0<=v/\m.testBit v.toNat=true:=by
  intro v hv
  refine hv.closed (S:=λv=>0<=v/\m.testBit v.toNat=true) ?_ ⟨by omega,h0⟩
  rintro a b ⟨ha,hb⟩ ⟨e,he,hx⟩
  have hk:=hes e he
  unfold EOk at hk
  rcases hx with ⟨h1,h2⟩|⟨h1,h2⟩
  ·subst h1;subst h2
   exact⟨by omega,by rw[<-hf e he];exact hb⟩
  ·subst h1;subst h2
   exact⟨by omega,by rw[hf e he];exact hb⟩
 have:=(key i hi).2
 simpa using this
theorem aMc {es:List E} {n:Nat} (hes:∀ e∈es,EOk n e):∀ (k:Nat) {m:Nat},MOk es n m->m.testBit 0=true ->
  (∀ i:Nat,aGp es 0 i->(aGf es k m).testBit i=true)∨k+cnt n m<=cnt n (aGf es k m)
 | 0,m,_,_=>.inr (by simp[aGf])
 | k+1,m,hm,h0=>by
  by_cases hfix:∀ i,(aF2 es m).testBit i=true->m.testBit i=true
  ·left
   intro i hi
   exact aMb es (k+1) (aNj hes hfix h0 i hi)
  ·obtain⟨i,hi⟩:=Classical.not_forall.1 hfix
   have hi1:(aF2 es m).testBit i=true:=Classical.byContradiction λhc=>hi (λx=>absurd x hc)
   have hi2:m.testBit i=false:=by
    cases hb:m.testBit i with
    | false=>rfl
    | true=>exact absurd (λ_=>hb) hi
   have hok:=aQs hes es (λ_ h=>h) hm
   have hlt:cnt n m<cnt n (aF2 es m):=cnt_lt (λj hj=>aHv es hj) ⟨i,by have:=(hok i hi1).1;omega,hi2,hi1⟩
   rcases aMc hes k hok (aHv es h0) with h|h
   ·exact .inl h
   ·right
    show k+1+_<=cnt n (aGf es k (aF2 es m))
    omega
theorem aXw {n m:Nat} (h:n<=cnt n m):∀ i,i<n->m.testBit i=true:=by
 intro i hi
 apply Classical.byContradiction
 intro hc
 have hc':m.testBit i=false:=by simpa using hc
 have:cnt n m<cnt n (2^n-1):=by
  refine aJ3 (λx hx _=>?_) ⟨i,List.mem_range.2 hi,hc',?_⟩
  ·rw[Nat.testBit_two_pow_sub_one];simpa using hx
  ·rw[Nat.testBit_two_pow_sub_one];simpa using hi
 have:=cnt_le n (2^n-1)
 omega
theorem aHe {es:List E} {n:Nat} (h1:1<=n) (hes:∀ e∈es,EOk n e):aGf es n 1=2^n-1↔Joined n es:=by
 have hm1:MOk es n 1:=by
  intro i hi
  have:i=0:=by simpa[Nat.testBit_one_eq_true_iff_self_eq_zero]using hi
  subst this
  exact⟨by omega,.refl⟩
 have h0:(1:Nat).testBit 0=true:=by decide
 have hok:=aQj hes n hm1
 constructor
 ·intro h v hv0 hvn
  have:=hok v.toNat (by rw[h,Nat.testBit_two_pow_sub_one];simp;omega)
  have e:((v.toNat:Nat):Int)=v:=by omega
  rw[e]at this
  exact this.2
 ·intro hj
  have hall:∀ i,i<n->(aGf es n 1).testBit i=true:=by
   rcases aMc hes n hm1 h0 with h|h
   ·exact λi hi=>h i (hj i (by omega) (by omega))
   ·have:n<=cnt n (aGf es n 1):=by omega
    exact aXw this
  apply Nat.eq_of_testBit_eq
  intro i
  rw[Nat.testBit_two_pow_sub_one,Bool.eq_iff_iff]
  simp only[decide_eq_true_eq]
  refine⟨λh=>?_,λh=>hall i h⟩
  have:=(hok i h).1
  omega
def gOk (n:Int) (es:List E):Bool:=decide (aHb n es)&&(decide (Sorted es)&&decide (aGf es n.toNat 1=2^n.toNat-1))
theorem aEp {n:Int} {es:List E}:gOk n es=true↔GOk n es:=by
 unfold gOk GOk
 simp only[Bool.and_eq_true,decide_eq_true_eq]
 constructor
 ·rintro⟨h1,h2,h3⟩
  have h:=h1
  unfold aHb at h
  obtain⟨m,rfl⟩:=Int.eq_ofNat_of_zero_le (a:=n) (by omega)
  exact⟨h1,h2,(aHe (n:=m) (by omega) h.2.2.2).1 h3⟩
 ·rintro⟨h1,h2,h3⟩
  have h:=h1
  unfold aHb at h
  obtain⟨m,rfl⟩:=Int.eq_ofNat_of_zero_le (a:=n) (by omega)
  exact⟨h1,h2,(aHe (n:=m) (by omega) h.2.2.2).2 h3⟩
def QOk (es:List E) (n:Int) (q:List Int):Prop:=q.Nodup/\∀ v∈q,(0<=v/\v<n)/\aGp es 0 v
theorem aEt:∀ (n:Nat) (l:List Int),l.Nodup->(∀ v∈l,0<=v/\v<n)->l.length<=n
 | 0,l,_,hv=>by
  cases l with
  | nil=>exact Nat.le_refl _
  | cons a r=>have:=hv a List.mem_cons_self;omega
 | n+1,l,hl,hv=>by
  by_cases hm:(n:Int)∈l
  ·have h1:=aEt n (l.erase n) (hl.erase _) (λv hx=>by
    have h2:=(hl.mem_erase_iff).1 hx
    have:=hv v h2.2
    have:=h2.1
    omega)
   rw[List.length_erase_of_mem hm]at h1
   omega
  ·have:=aEt n l hl (λv hx=>by
    have:=hv v hx
    have:v≠n:=by rintro rfl;exact hm hx
    omega)
   omega
theorem aIx:∀ (n:Nat) (l:List Int),(∀ i:Nat,i<n->(i:Int)∈l)->n<=l.length
 | 0,_,_=>Nat.zero_le _
 | n+1,l,h=>by
  have hm:=h n (by omega)
  have:=aIx n (l.erase n) (λi hi=>(List.mem_erase_of_ne (by omega)).2 (h i (by omega)))
  rw[List.length_erase_of_mem hm]at this
  have:0<l.length:=List.length_pos_of_mem hm
  omega
theorem aO7 {es:List E} {n:Nat} (h1:1<=n) {q:List Int} (hq:QOk es n q) (h0:(0:Int)∈q) (hc:∀ a∈q,∀ b,Adj es a b->b∈q):q.length=n↔Joined n es:=by
 constructor
 ·intro hl v hv0 hvn
  have:v∈q:=by
   apply Classical.byContradiction
   intro hv
   have:=aEt n (v::q) (List.nodup_cons.2 ⟨hv,hq.1⟩) (λx hx=>by
    rcases List.mem_cons.1 hx with rfl|hx
    ·exact⟨hv0,hvn⟩
    ·exact(hq.2 x hx).1)
   simp at this
   omega
  exact(hq.2 v this).2
 ·intro hj
  have:=aEt n q hq.1 (λx hx=>(hq.2 x hx).1)
  have:=aIx n q (λi hi=>(hj i (by omega) (by omega)).closed (S:=λx=>x∈q) (λa b ha hab=>hc a ha b hab) h0)
  omega
theorem QOk.push {es:List E} {n:Int} {q:List Int} (h:QOk es n q) {v:Int} (hv:v∉q) (h0:0<=v/\v<n) (hc:aGp es 0 v):QOk es n (q++[v]):=by
 refine⟨?_,λx hx=>?_⟩
 ·rw[List.nodup_append]
  exact⟨h.1,by simp,λa ha b hb=>by
   rw[List.mem_singleton.1 hb]
   rintro rfl
   exact hv ha⟩
 ·rcases List.mem_append.1 hx with hx|hx
  ·exact h.2 x hx
  ·rw[List.mem_singleton.1 hx]
   exact⟨h0,hc⟩
end Cf
namespace P
def aDr.l0:Nat->List Int->List Int->Int->Option (Bool)
 | 0,_,_,_=>none
 | k+1,x0,x1,x5=>if x5<(x0.length:Int) then(if 0<=x5 then(if x5<(x1.length:Int) then(if(rd x0 x5)=(rd x1 x5) then(aDr.l0 k x0 x1 (wrap64 (x5+1))) else(some false)) else(none)) else(none)) else(some true)
def aDr.f (k:Nat) (l0:List Int) (l1:List Int):Option (Bool):=if(l0.length:Int)=(l1.length:Int) then(aDr.l0 k l0 l1 0) else(some false)
theorem aDr.aBa:∀ k,(∀ y0 y1 y2,LeO (aDr.l0 k y0 y1 y2) (aDr.l0 (k+1) y0 y1 y2))
 | 0=>λ_ _ _ r h=>by simp[aDr.l0]at h
 | k+1=>by
  have ih0:=aDr.aBa k
  ·intro y0 y1 y2
   unfold aDr.l0
   exact zm0
theorem aDr.mono:∀ a0 a1 k,LeO (aDr.f k a0 a1) (aDr.f (k+1) a0 a1):=by
 intro a0 a1 k;have ih0:=aDr.aBa k;unfold aDr.f;exact zm0
def aD7.l0:Nat->List Int->Int->Int->Option (Int×List Int)
 | 0,_,_,_=>none
 | k+1,x0,x1,x5=>if x5<(x0.length:Int) then(if 0<=x5 then(aD7.l0 k (x0.set (x5:Int).toNat x1) (wrap64 (x1+1)) (wrap64 (x5+1))) else(none)) else(some (x1,x0))
def aD7.f (k:Nat) (l0:List Int) (a1:Int):Option (Int×List Int):=aD7.l0 k l0 a1 0
theorem aD7.aBa:∀ k,(∀ y0 y1 y2,LeO (aD7.l0 k y0 y1 y2) (aD7.l0 (k+1) y0 y1 y2))
 | 0=>λ_ _ _ r h=>by simp[aD7.l0]at h
 | k+1=>by
  have ih0:=aD7.aBa k
  ·intro y0 y1 y2
   unfold aD7.l0
   exact zm0
theorem aD7.mono:∀ a0 a1 k,LeO (aD7.f k a0 a1) (aD7.f (k+1) a0 a1):=by
 intro a0 a1 k;have ih0:=aD7.aBa k;unfold aD7.f;exact zm0
def aD8.l0:Nat->List Int->Int->Int->Option (Int)
 | 0,_,_,_=>none
 | k+1,x0,x1,x5=>if x5<(x0.length:Int) then(if 0<=x5 then(if(rd x0 x5)=x1 then(aD8.l0 k x0 (wrap64 (x1+1)) (wrap64 (x5+1))) else(some (-1))) else(none)) else(some x1)
def aD8.f (k:Nat) (l0:List Int) (a1:Int):Option (Int):=aD8.l0 k l0 a1 0
theorem aD8.aBa:∀ k,(∀ y0 y1 y2,LeO (aD8.l0 k y0 y1 y2) (aD8.l0 (k+1) y0 y1 y2))
 | 0=>λ_ _ _ r h=>by simp[aD8.l0]at h
 | k+1=>by
  have ih0:=aD8.aBa k
  ·intro y0 y1 y2
   unfold aD8.l0
   exact zm0
theorem aD8.mono:∀ a0 a1 k,LeO (aD8.f k a0 a1) (aD8.f (k+1) a0 a1):=by
 intro a0 a1 k;have ih0:=aD8.aBa k;unfold aD8.f;exact zm0
end P
namespace Cf
open P
theorem wrap_succ {i:Nat} (h:i<4611686018427387904):wrap64 ((i:Int)+1)=((i+1:Nat):Int):=by
 rw[aCv (by omega) (by omega)]
 omega
theorem aF4 {es:List E} {i:Nat} (h:i<es.length):aA2 es (i:Int)=es[i]:=by simp[aA2,List.getD,h]
theorem aJ0 (a b c:Int):aCj.f a b c=some (decide (b<=a/\a<=c)):=by
 unfold aCj.f
 by_cases h:a≥b
 ·rw[if_pos h]
  have:(b<=a/\a<=c)↔a<=c:=⟨λx=>x.2,λx=>⟨h,x⟩⟩
  simp only[this]
 ·rw[if_neg h]
  have:¬ (b<=a/\a<=c):=λx=>h x.1
  simp only[this,decide_false]
theorem aGc {es:List E} {P:E->Prop} {i:Nat} (h:i<es.length):(∀ e∈es.drop i,P e)↔(P es[i]/\∀ e∈es.drop (i+1),P e):=by
 rw[List.drop_eq_getElem_cons h]
 simp only[List.mem_cons,forall_eq_or_imp]
theorem aO1 (n:Int) (hn:1<=n/\n<=6) (es:List E) (hl:es.length<=12):∀ (d i:Nat),i+d=es.length->Ep (λk=>aB9.l0 k es (es.length:Int) (i:Int) n es) (·=decide (∀ e∈es.drop i,EOk n e)):=by
 intro d
 induction d with
 | zero =>
  intro i hi
  refine Ep.up ?_
  simp only[aB9.l0]
  refine Ep.neg (by omega) (Ep.now ?_)
  rw[List.drop_of_length_le (by omega)]
  simp
 | succ d ih =>
  intro i hi
  have hlt:i<es.length:=by omega
  refine Ep.up ?_
  simp only[aB9.l0]
  refine Ep.pos (by omega) (Ep.pos (by omega) (Ep.pos (by omega) ?_))
  rw[aF4 hlt,aCv (x:=n-1) (by omega) (by omega)]
  refine Ep.aEu (aJ0 _ _ _) ?_
  refine Ep.ite (λh0=>?_) (λh0=>Ep.now ?_)
  ·have h0':0<=es[i].f0/\es[i].f0<=n-1:=by simpa using h0
   rw[aCv (x:=es[i].f0+1) (by omega) (by omega)]
   refine Ep.aEu (aJ0 _ _ _) ?_
   refine Ep.ite (λh1=>?_) (λh1=>Ep.now ?_)
   ·have h1':es[i].f0+1<=es[i].f1/\es[i].f1<=n-1:=by simpa using h1
    rw[wrap_succ (by omega)]
    refine(ih (i+1) (by omega)).mono ?_
    rintro _ rfl
    have:EOk n es[i]:=by unfold EOk;omega
    simp only[aGc hlt,this,true_and]
   ·have h1':¬ (es[i].f0+1<=es[i].f1/\es[i].f1<=n-1):=by simpa using h1
    have:¬ EOk n es[i]:=by unfold EOk;omega
    simp only[aGc hlt,this,false_and,decide_false]
  ·have h0':¬ (0<=es[i].f0/\es[i].f0<=n-1):=by simpa using h0
   have:¬ EOk n es[i]:=by unfold EOk;omega
   simp only[aGc hlt,this,false_and,decide_false]
theorem aTm (n:Int) (es:List E):Ep (λk=>aB9.f k n es) (·=decide (aHb n es)):=by
 simp only[aB9.f]
 refine Ep.aEu (aJ0 _ _ _) ?_
 refine Ep.ite (λh0=>?_) (λh0=>?_)
 ·have h0':1<=n/\n<=6:=by simpa using h0
  refine Ep.up ?_
  simp only[aB9.j0]
  refine Ep.ite (λh1=>Ep.now ?_) (λh1=>?_)
  ·have:¬ aHb n es:=by
    have:(es.length:Int)>12:=by simpa using h1
    unfold aHb
    omega
   simp[this]
  ·have hl:es.length<=12:=by
    have:¬ (es.length:Int)>12:=by simpa using h1
    omega
   refine(aO1 n h0' es hl es.length 0 (by omega)).mono ?_
   rintro _ rfl
   rw[List.drop_zero]
   unfold aHb
   simp only[h0'.1,h0'.2,hl,true_and]
 ·have h0':¬ (1<=n/\n<=6):=by simpa using h0
  refine Ep.up ?_
  simp only[aB9.j0]
  refine Ep.pos (by simp) (Ep.now ?_)
  have:¬ aHb n es:=by
   unfold aHb
   omega
  simp[this]
theorem aRv (x:Int) (l:List Int) (hl:l.length<=1048576):∀ (d i:Nat),i+d=l.length->Ep (λk=>aBc.l0 k x l (l.length:Int) (i:Int)) (·=decide (x∈l.drop i)):=by
 intro d
 induction d with
 | zero =>
  intro i hi
  refine Ep.up ?_
  simp only[aBc.l0]
  refine Ep.neg (by omega) (Ep.now ?_)
  rw[List.drop_of_length_le (by omega)]
  simp
 | succ d ih =>
  intro i hi
  have hlt:i<l.length:=by omega
  refine Ep.up ?_
  simp only[aBc.l0]
  refine Ep.pos (by omega) (Ep.pos (by omega) (Ep.pos (by omega) ?_))
  rw[aEh hlt,wrap_succ (by omega),List.drop_eq_getElem_cons hlt]
  refine Ep.ite (λh=>Ep.now ?_) (λh=>?_)
  ·simp only[List.mem_cons,h,true_or,decide_true]
  ·refine(ih (i+1) (by omega)).mono ?_
   rintro _ rfl
   have:¬ x=l[i]:=λe=>h e.symm
   simp only[List.mem_cons,this,false_or]
theorem aTk (l:List Int) (x:Int) (hl:l.length<=1048576):Ep (λk=>aBc.f k l x) (·=decide (x∈l)):=by
 have:=aRv x l hl l.length 0 (by omega)
 simp only[aBc.f]
 exact this
structure BInv (es:List E) (n:Nat) (q:List Int) (a i:Nat) (u:Int):Prop where
 ok:QOk es n q
 zero:(0:Int)∈q
 done:∀ x∈q.take a,∀ b,Adj es x b->b∈q
 at_:q[a]? = some u
 part:∀ e∈es.take i,(e.f0=u->e.f1∈q)/\(e.f1=u->e.f0∈q)
theorem BInv.lt {es:List E} {n:Nat} {q:List Int} {a i:Nat} {u:Int} (h:BInv es n q a i u):a<q.length:=by
 apply Classical.byContradiction
 intro hc
 have:=h.at_
 rw[List.getElem?_eq_none (by omega)]at this
 cases this
theorem BInv.len {es:List E} {n:Nat} {q:List Int} {a i:Nat} {u:Int} (h:BInv es n q a i u):q.length<=n:=aEt n q h.ok.1 (λv hv=>(h.ok.2 v hv).1)
theorem BInv.rd {es:List E} {n:Nat} {q:List Int} {a i:Nat} {u:Int} (h:BInv es n q a i u):rd q (a:Int)=u:=by
 rw[aTy,zdG,h.at_]
 rfl
theorem BInv.push {es:List E} {n:Nat} {q:List Int} {a i:Nat} {u v:Int} (hes:∀ e∈es,EOk n e) (h:BInv es n q a i u) (hv:v∉q) (aIi:Adj es u v):BInv es n (q++[v]) a i u where
 ok:=by
  have hu:u∈q:=List.mem_of_getElem? h.at_
  exact h.ok.push hv (aHb.adj hes aIi) ((h.ok.2 u hu).2.tail aIi)
 zero:=List.mem_append_left _ h.zero
 done:=λx hx b hb=>by
  rw[List.take_append_of_le_length (by have:=h.lt;omega)]at hx
  exact List.mem_append_left _ (h.done x hx b hb)
 at_:=by rw[List.getElem?_append_left h.lt];exact h.at_
 part:=λe he=>⟨λx=>List.mem_append_left _ ((h.part e he).1 x),λx=>List.mem_append_left _ ((h.part e he).2 x)⟩
theorem BInv.next {es:List E} {n:Nat} {q:List Int} {a i:Nat} {u:Int} (h:BInv es n q a i u) (hi:i<es.length) (h0:es[i].f0=u->es[i].f1∈q) (h1:es[i].f1=u->es[i].f0∈q):BInv es n q a (i+1) u where
 ok:=h.ok
 zero:=h.zero
 done:=h.done
 at_:=h.at_
 part:=λe he=>by
  rw[List.take_succ_eq_append_getElem hi]at he
  rcases List.mem_append.1 he with he|he
  ·exact h.part e he
  ·rw[List.mem_singleton.1 he]
   exact⟨h0,h1⟩
theorem aNy (n:Nat) (hn:n<=6) (es:List E) (hl:es.length<=12) (hes:∀ e∈es,EOk n e) (a:Nat) (u:Int) {Q:List Int->Prop}
  (hk:∀ q,BInv es n q a es.length u->Ep (λk=>aAh.l0 k q ((a+1:Nat):Int) (n:Int) es) Q) :
  ∀ (d i:Nat) (q:List Int),i+d=es.length->BInv es n q a i u->Ep (λk=>aAh.l1 k q (a:Int) es (es.length:Int) (i:Int) (n:Int) es) Q:=by
 intro d
 induction d with
 | zero =>
  intro i q hi hb
  refine Ep.up ?_
  simp only[aAh.l1]
  refine Ep.neg (by omega) ?_
  have:=hb.lt
  have:=hb.len
  rw[wrap_succ (by omega)]
  have e:i=es.length:=by omega
  subst e
  exact hk q hb
 | succ d ih =>
  intro i q hi hb
  have hlt:i<es.length:=by omega
  have hal:=hb.lt
  have hql:=hb.len
  have he:=hes es[i] (List.getElem_mem hlt)
  have bMk:=he
  unfold EOk at he
  have aIi:Adj es es[i].f0 es[i].f1:=⟨es[i],List.getElem_mem hlt,.inl ⟨rfl,rfl⟩⟩
  -- the second test, behind the first
  have second:∀ q',BInv es n q' a i u->(es[i].f0=u->es[i].f1∈q')->Ep (λk=>if (0:Int)<=(a:Int) then(if(a:Int)<(q'.length:Int) then(if es[i].f1=rd q' (a:Int) then((aBc.f k q' es[i].f0).bind λt=>(if t=true then(aAh.l1 k q' (a:Int) es (es.length:Int) (wrap64 ((i:Int)+1)) (n:Int) es) else(if q'.length<17592186044416 then(aAh.l1 k (q'++[es[i].f0]) (a:Int) es (es.length:Int) (wrap64 ((i:Int)+1)) (n:Int) es) else(none)))) else(aAh.l1 k q' (a:Int) es (es.length:Int) (wrap64 ((i:Int)+1)) (n:Int) es)) else(none)) else(none)) Q:=by
   intro q' hb' h0
   have hal':=hb'.lt
   have bMi:=hb'.len
   refine Ep.pos (by omega) (Ep.pos (by omega) ?_)
   rw[hb'.rd,wrap_succ (by omega)]
   refine Ep.ite (λh1=>?_) (λh1=>ih (i+1) q' (by omega) (hb'.next hlt h0 (λx=>absurd x h1)))
   refine Ep.bind (aTk q' _ (by omega)) ?_
   rintro _ rfl
   refine Ep.ite (λh2=>ih (i+1) q' (by omega) (hb'.next hlt h0 (λ_=>by simpa using h2))) (λh2=>Ep.pos (by omega) ?_)
   have h2':es[i].f0∉q':=by simpa using h2
   have hb2:=hb'.push hes h2' (by rw[<-h1];exact aIi.symm)
   exact ih (i+1) _ (by omega) (hb2.next hlt (λx=>List.mem_append_left _ (h0 x)) (λ_=>by simp))
  refine Ep.up ?_
  simp only[aAh.l1]
  refine Ep.pos (by omega) (Ep.pos (by omega) (Ep.pos (by omega) (Ep.pos (by omega) (Ep.pos (by omega) ?_))))
  rw[aF4 hlt,hb.rd]
  refine Ep.ite (λh0=>?_) (λh0=>?_)
  ·refine Ep.bind (aTk q _ (by omega)) ?_
   rintro _ rfl
   refine Ep.up ?_
   simp only[aAh.j2]
   refine Ep.ite (λh1=>Ep.pos (by omega) ?_) (λh1=>second q hb (λ_=>by simpa using h1))
   have h1':es[i].f1∉q:=by simpa using h1
   refine Ep.aEu rfl ?_
   exact second _ (hb.push hes h1' (by rw[<-h0];exact aIi)) (λ_=>by simp)
  ·refine Ep.up ?_
   simp only[aAh.j2]
   exact Ep.neg (by simp) (second q hb (λx=>absurd x h0))
theorem aNz (n:Nat) (hn:1<=n/\n<=6) (es:List E) (hl:es.length<=12) (hes:∀ e∈es,EOk n e):∀ (d a:Nat) (q:List Int),a+d=7->a<=q.length->QOk es n q->(0:Int)∈q->(∀ x∈q.take a,∀ b,Adj es x b->b∈q) ->
  Ep (λk=>aAh.l0 k q (a:Int) (n:Int) es) (λr=>(r.length=n↔Joined n es)/\r.length<=6):=by
 intro d
 induction d with
 | zero =>
  intro a q ha hq hok _ _
  have:=aEt n q hok.1 (λv hv=>(hok.2 v hv).1)
  omega
 | succ d ih =>
  intro a q ha hq hok h0 hdone
  have hlen:=aEt n q hok.1 (λv hv=>(hok.2 v hv).1)
  refine Ep.up ?_
  simp only[aAh.l0]
  refine Ep.ite (λhlt=>?_) (λhge=>Ep.now ?_)
  ·have hlt':a<q.length:=by omega
   have hb:BInv es n q a 0 q[a]:=⟨hok,h0,hdone,zdH hlt',λe he=>by simp at he⟩
   refine aNy n hn.2 es hl hes a q[a] ?_ es.length 0 q (by omega) hb
   intro q' hb'
   refine ih (a+1) q' (by omega) (by have:=hb'.lt;omega) hb'.ok hb'.zero ?_
   intro x hx b aIi
   have hal:=hb'.lt
   rw[List.take_succ_eq_append_getElem hal]at hx
   rcases List.mem_append.1 hx with hx|hx
   ·exact hb'.done x hx b aIi
   ·have hx':x=q'[a]:=List.mem_singleton.1 hx
    have hu:q'[a]=q[a]:=by
     have:=hb'.at_
     rw[zdH hal]at this
     exact zdI this
    obtain⟨e,he,h⟩:=aIi
    have hp:=hb'.part e (by rw[List.take_of_length_le (Nat.le_refl _)];exact he)
    rcases h with ⟨x0,x1⟩|⟨x0,x1⟩
    ·rw[<-x1]
     exact hp.1 (by rw[x0,hx',hu])
    ·rw[<-x0]
     exact hp.2 (by rw[x1,hx',hu])
  ·have hfull:q.take a=q:=List.take_of_length_le (by omega)
   rw[hfull]at hdone
   exact⟨aO7 hn.1 hok h0 hdone,by omega⟩
theorem aTj (n:Nat) (hn:1<=n/\n<=6) (es:List E) (hl:es.length<=12) (hes:∀ e∈es,EOk n e):Ep (λk=>aAh.f k (n:Int) es) (λr=>(r.length=n↔Joined n es)/\r.length<=6):=by
 simp only[aAh.f]
 refine aNz n hn es hl hes 7 0 [0] rfl (by simp) ⟨by simp,λv hv=>?_⟩ (by simp) (λx hx=>by simp at hx)
 rw[List.mem_singleton.1 hv]
 exact⟨⟨Int.le_refl _,by omega⟩,.refl⟩
def aY0 (es:List E) (i:Nat):Prop:=∀ j,(h:j+1<es.length)->j+1<i->leE es[j] es[j+1]
theorem aO0 (n:Nat) (es:List E) (hes:aHb n es):∀ (d i:Nat),i+d=es.length->aY0 es i->Ep (λk=>aAo.l0 k es (es.length:Int) (i:Int) (n:Int) es) (·=gOk n es):=by
 have hes':=hes
 obtain⟨hn1,hn6,hl,hok⟩:=hes
 intro d
 induction d with
 | zero =>
  intro i hi hs
  refine Ep.up ?_
  simp only[aAo.l0]
  refine Ep.neg (by omega) ?_
  refine Ep.bind (aTj n (by omega) es hl hok) ?_
  rintro r ⟨hr,_⟩
  refine Ep.now ?_
  have hsorted:Sorted es:=λj h=>hs j h (by omega)
  have hiff:GOk n es↔Joined n es:=⟨λh=>h.2.2,λh=>⟨hes',hsorted,h⟩⟩
  by_cases hj:Joined n es
  ·have:gOk n es=true:=aEp.2 (hiff.2 hj)
   rw[this,hr.2 hj]
   simp
  ·have:gOk n es=false:=by
    cases hg:gOk n es with
    | false=>rfl
    | true=>exact absurd (hiff.1 (aEp.1 hg)) hj
   rw[this]
   have hne:r.length≠n:=λe=>hj (hr.1 e)
   simp
   omega
 | succ d ih =>
  intro i hi hs
  have hlt:i<es.length:=by omega
  have hbad:∀ j,i=j+1->(hj:j<es.length)->¬ leE es[j] es[i]->gOk n es=false:=by
   intro j hij hj hx
   subst hij
   cases hg:gOk n es with
   | false=>rfl
   | true=>exact absurd ((aEp.1 hg).2.1 j hlt) hx
  have hgood:(∀ j,i=j+1->(hj:j<es.length)->leE es[j] es[i])->Ep (λk=>aAo.l0 k es (es.length:Int) (wrap64 ((i:Int)+1)) (n:Int) es) (·=gOk n es):=by
   intro hx
   rw[wrap_succ (by omega)]
   refine ih (i+1) (by omega) ?_
   intro j h hji
   by_cases e:j+1<i
   ·exact hs j h e
   ·have e':i=j+1:=by omega
    have:=hx j e' (by omega)
    subst e'
    exact this
  refine Ep.up ?_
  simp only[aAo.l0]
  refine Ep.pos (by omega) (Ep.pos (by omega) (Ep.pos (by omega) ?_))
  refine Ep.ite (λhpos=>?_) (λhz=>hgood (λj hij _=>by omega))
  obtain⟨j,rfl⟩:∃ j,i=j+1:=⟨i-1,by omega⟩
  have hw:wrap64 (((j+1:Nat):Int)-1)=(j:Int):=by rw[aCv (by omega) (by omega)];omega
  rw[hw,aF4 hlt,aF4 (show j<es.length by omega)]
  refine Ep.pos (by omega) (Ep.pos (by omega) ?_)
  refine Ep.ite (λh0=>Ep.now ?_) (λh0=>?_)
  ·exact(hbad j rfl (by omega) (by unfold leE;omega)).symm
  ·refine Ep.ite (λh1=>?_) (λh1=>hgood (λj' hij _=>?_))
   ·refine Ep.ite (λh2=>Ep.now ?_) (λh2=>hgood (λj' hij _=>?_))
    ·exact(hbad j rfl (by omega) (by unfold leE;omega)).symm
    ·obtain rfl:j'=j:=by omega
     unfold leE
     omega
   ·obtain rfl:j'=j:=by omega
    unfold leE
    omega
theorem aTl (n:Int) (es:List E):Ep (λk=>aAo.f k n es) (·=gOk n es):=by
 simp only[aAo.f]
 refine Ep.bind (aTm n es) ?_
 rintro _ rfl
 refine Ep.ite (λh=>?_) (λh=>Ep.now ?_)
 ·have h':aHb n es:=by simpa using h
  have h1:=h'.1
  obtain⟨m,rfl⟩:=Int.eq_ofNat_of_zero_le (a:=n) (by omega)
  exact aO0 m es h' es.length 0 (by omega) (λj h hj=>by omega)
 ·have h':¬ aHb n es:=by simpa using h
  cases hg:gOk n es with
  | false=>rfl
  | true=>exact absurd (aEp.1 hg).1 h'
theorem aKs (a b c:Int):aDs.f a b c=some (decide (b<=a/\a<=c)):=by
 unfold aDs.f
 by_cases h:a≥b
 ·rw[if_pos h]
  have:(b<=a/\a<=c)↔a<=c:=⟨λx=>x.2,λx=>⟨h,x⟩⟩
  simp only[this]
 ·rw[if_neg h]
  have:¬ (b<=a/\a<=c):=λx=>h x.1
  simp only[this,decide_false]
theorem aOq (n:Int) (es:List E) (hl:es.length<=12):∀ (d i:Nat),i+d=es.length->Ep (λk=>aBd.l0 k es (es.length:Int) (i:Int) n es) (·=decide (∀ e∈es.drop i,EOk n e)):=by
 intro d
 induction d with
 | zero =>
  intro i hi
  refine Ep.up ?_
  simp only[aBd.l0]
  refine Ep.neg (by omega) (Ep.now ?_)
  rw[List.drop_of_length_le (by omega)]
  simp
 | succ d ih =>
  intro i hi
  have hlt:i<es.length:=by omega
  have no:¬ EOk n es[i]->false=decide (∀ e∈es.drop i,EOk n e):=λh=>by simp only[aGc hlt,h,false_and,decide_false]
  refine Ep.up ?_
  simp only[aBd.l0]
  refine Ep.pos (by omega) (Ep.pos (by omega) (Ep.pos (by omega) ?_))
  rw[aF4 hlt]
  refine Ep.ite (λh=>Ep.now (no (by unfold EOk;omega))) (λh0=>?_)
  refine Ep.ite (λh=>Ep.now (no (by unfold EOk;omega))) (λh1=>?_)
  refine Ep.ite (λh=>Ep.now (no (by unfold EOk;omega))) (λh2=>?_)
  rw[wrap_succ (by omega)]
  refine(ih (i+1) (by omega)).mono ?_
  rintro _ rfl
  have:EOk n es[i]:=by unfold EOk;omega
  simp only[aGc hlt,this,true_and]
theorem aUh (n:Int) (es:List E):Ep (λk=>aBd.f k n es) (·=decide (aHb n es)):=by
 simp only[aBd.f]
 refine Ep.aEu (aKs _ _ _) ?_
 refine Ep.ite (λh0=>?_) (λh0=>?_)
 ·have h0':1<=n/\n<=6:=by simpa using h0
  refine Ep.up ?_
  simp only[aBd.j0]
  refine Ep.ite (λh1=>Ep.now ?_) (λh1=>?_)
  ·have:¬ aHb n es:=by
    have:(es.length:Int)>12:=by simpa using h1
    unfold aHb
    omega
   simp[this]
  ·have hl:es.length<=12:=by
    have:¬ (es.length:Int)>12:=by simpa using h1
    omega
   refine(aOq n es hl es.length 0 (by omega)).mono ?_
   rintro _ rfl
   rw[List.drop_zero]
   unfold aHb
   simp only[h0'.1,h0'.2,hl,true_and]
 ·have h0':¬ (1<=n/\n<=6):=by simpa using h0
  refine Ep.up ?_
  simp only[aBd.j0]
  refine Ep.pos (by simp) (Ep.now ?_)
  have:¬ aHb n es:=by
   unfold aHb
   omega
  simp[this]
theorem aIo (n:Int) (h0:0<=n) (h1:n<2^62):IntKind.i64.wrap n=n:=by rw[IntKind.wrap_i64];omega
theorem aYn {a b:Nat} (ha:a<2^62) (hb:b<2^62):Go.bits .or .i64 (a:Int) (b:Int)=((a ||| b:Nat):Int):=(bits_nat .i64 62 (by decide) aIo a b ha hb).2
theorem bBk {a b:Nat} (ha:a<2^62) (hb:b<2^62):Go.bits .and .i64 (a:Int) (b:Int)=((a &&& b:Nat):Int):=(bits_nat .i64 62 (by decide) aIo a b ha hb).1
theorem aPk {a:Nat} (ha:a<62):shl .i64 1 (a:Int)=((2^a:Nat):Int):=by
 unfold shl
 have:(2:Int)^a<2^62:=by
  have:=Nat.pow_lt_pow_right (a:=2) (by decide) ha
  exact_mod_cast this
 rw[Int.toNat_natCast,Nat.min_eq_left (by show a<=64;omega),Int.one_mul,aIo _ (by have:=Int.pow_nonneg (n:=2) (m:=a) (by decide);omega) this]
 simp
theorem bA1 {m a:Nat} (ha:a<62):shr .i64 (m:Int) (a:Int)=((m/2^a:Nat):Int):=by
 unfold shr
 rw[Int.toNat_natCast,Nat.min_eq_left (by show a<=64;omega)]
 simp
theorem aKm {m:Nat} (hm:m<2^62) {a:Nat} (ha:a<62):Go.bits .and .i64 (shr .i64 (m:Int) (a:Int)) 1=1↔m.testBit a=true:=by
 rw[bA1 ha,show (1:Int)=((1:Nat):Int) from rfl,bBk (Nat.lt_of_le_of_lt (Nat.div_le_self _ _) hm) (by decide)]
 rw[Nat.testBit_eq_decide_div_mod_eq,Nat.and_one_is_mod]
 generalize m/2^a=x
 simp only[decide_eq_true_eq]
 omega
theorem aP2 {m a:Nat}:m.testBit a=true∨m.testBit a=false:=by cases m.testBit a<;>simp
theorem aTi {m:Nat} {e:E} {n:Int} (hm:m<2^6) (he:EOk n e) (hn:n<=6):stepM m e<2^6:=by
 unfold EOk at he
 unfold stepM
 split
 ·apply Nat.or_lt_two_pow hm
  apply Nat.or_lt_two_pow
  ·exact Nat.pow_lt_pow_right (by decide) (by omega)
  ·exact Nat.pow_lt_pow_right (by decide) (by omega)
 ·exact hm
theorem aWm {n:Int} (hn:n<=6):∀ (es:List E),(∀ e∈es,EOk n e)->∀ {m:Nat},m<2^6->aF2 es m<2^6:=by
 intro es
 induction es with
 | nil=>intro _ m h;exact h
 | cons e r ih=>intro hes m h;exact ih (λx hx=>hes x (List.mem_cons_of_mem _ hx)) (aTi h (hes e List.mem_cons_self) hn)
open Classical in
noncomputable def aIf (n:Int) (es:List E):Bool:=decide (Joined n es)
theorem aLe {n:Int} {es:List E}:aIf n es=true↔Joined n es:=by unfold aIf;simp
theorem aPv (n:Int) (hn:n<=6) (es:List E) (hl:es.length<=1048576) (hes:∀ e∈es,EOk n e) (x8 x9:Int) {Q:Bool->Prop} (m0:Nat)
  (hk:Ep (λk=>aAr.l0 k n es ((aF2 es m0:Nat):Int) x8 (wrap64 (x9+1))) Q) :
  ∀ (d i:Nat) (m:Nat),i+d=es.length->m<2^6->aF2 (es.drop i) m=aF2 es m0->Ep (λk=>aAr.l1 k n es (m:Int) x8 x9 es (es.length:Int) (i:Int)) Q:=by
 intro d
 induction d with
 | zero =>
  intro i m hi hm hr
  refine Ep.up ?_
  simp only[aAr.l1]
  refine Ep.neg (by omega) ?_
  rw[List.drop_of_length_le (by omega)]at hr
  have e:m=aF2 es m0:=hr
  rw[e]
  exact hk
 | succ d ih =>
  intro i m hi hm hr
  have hlt:i<es.length:=by omega
  have hek:=hes es[i] (List.getElem_mem hlt)
  have he:=hek
  unfold EOk at he
  rw[List.drop_eq_getElem_cons hlt]at hr
  have hr':aF2 (es.drop (i+1)) (stepM m es[i])=aF2 es m0:=hr
  have hst:=aTi hm hek hn
  obtain⟨a,ha⟩:=Int.eq_ofNat_of_zero_le he.1
  obtain⟨b,hb⟩:=Int.eq_ofNat_of_zero_le (a:=es[i].f1) (by omega)
  have ha6:a<6:=by omega
  have hb6:b<6:=by omega
  have bG2:m<2^62:=by omega
  have pa:2^a<2^6:=Nat.pow_lt_pow_right (by decide) ha6
  have pb:2^b<2^6:=Nat.pow_lt_pow_right (by decide) hb6
  have pab:2^a ||| 2^b<2^6:=Nat.or_lt_two_pow pa pb
  have hset:Go.bits .or .i64 (m:Int) (Go.bits .or .i64 (shl .i64 1 (a:Int)) (shl .i64 1 (b:Int)))=((m ||| (2^a ||| 2^b):Nat):Int):=by
   rw[aPk (by omega),aPk (by omega),aYn (by omega) (by omega),aYn (by omega) (by omega)]
  have hstep:(m.testBit a||m.testBit b)=true->stepM m es[i]=m ||| (2^a ||| 2^b):=by
   intro h
   unfold stepM
   rw[ha,hb]
   simp only[Int.ofNat_eq_natCast,Int.toNat_natCast]
   rw[if_pos h]
  have bH1:(m.testBit a||m.testBit b)=false->stepM m es[i]=m:=by
   intro h
   unfold stepM
   rw[ha,hb]
   simp only[Int.ofNat_eq_natCast,Int.toNat_natCast]
   rw[if_neg (by rw[h];simp)]
  refine Ep.up ?_
  simp only[aAr.l1]
  refine Ep.pos (by omega) (Ep.pos (by omega) (Ep.pos (by omega) ?_))
  rw[aF4 hlt,ha,hb]
  refine Ep.pos (by omega) ?_
  rw[hset,wrap_succ (by omega)]
  refine Ep.ite (λh=>Ep.pos (by omega) ?_) (λh=>Ep.pos (by omega) (Ep.ite (λh2=>?_) (λh2=>?_)))
  ·have:=(aKm bG2 (by omega)).1 h
   rw[<-hstep (by rw[this];rfl)]
   exact ih (i+1) _ (by omega) hst hr'
  ·have:=(aKm bG2 (by omega)).1 h2
   rw[<-hstep (by rw[this];simp)]
   exact ih (i+1) _ (by omega) hst hr'
  ·have h1:m.testBit a=false:=by
    rcases aP2 (m:=m) (a:=a) with x|x
    ·exact absurd ((aKm bG2 (by omega)).2 x) h
    ·exact x
   have h3:m.testBit b=false:=by
    rcases aP2 (m:=m) (a:=b) with x|x
    ·exact absurd ((aKm bG2 (by omega)).2 x) h2
    ·exact x
   have:=bH1 (by rw[h1,h3];rfl)
   rw[this]at hr'
   exact ih (i+1) _ (by omega) hm hr'
theorem aPw (n:Nat) (hn:1<=n/\n<=6) (es:List E) (hl:es.length<=1048576) (hes:∀ e∈es,EOk n e):∀ (d i m:Nat),i+d=n->m<2^6->aGf es d m=aGf es n 1->Ep (λk=>aAr.l0 k (n:Int) es (m:Int) (n:Int) (i:Int)) (·=aIf n es):=by
 intro d
 induction d with
 | zero =>
  intro i m hi hm hr
  refine Ep.up ?_
  simp only[aAr.l0]
  refine Ep.neg (by omega) (Ep.pos (by omega) (Ep.now ?_))
  have hr':m=aGf es n 1:=hr
  have hp:1<=2^n:=Nat.one_le_two_pow
  have hp2:2^n<=2^6:=Nat.pow_le_pow_right (by decide) hn.2
  rw[aPk (by omega),aCv (by omega) (by omega)]
  rw[Bool.eq_iff_iff,aLe,<-aHe hn.1 hes,<-hr']
  simp only[beq_iff_eq]
  omega
 | succ d ih =>
  intro i m hi hm hr
  refine Ep.up ?_
  simp only[aAr.l0]
  refine Ep.pos (by omega) ?_
  refine aPv n (by omega) es hl hes _ _ m ?_ es.length 0 m (by omega) hm (by rw[List.drop_zero])
  rw[wrap_succ (by omega)]
  exact ih (i+1) _ (by omega) (aWm (by omega) es hes hm) hr
theorem aXe (n:Nat) (hn:1<=n/\n<=6) (es:List E) (hl:es.length<=1048576) (hes:∀ e∈es,EOk n e):Ep (λk=>aAr.f k (n:Int) es) (·=aIf n es):=by
 simp only[aAr.f]
 exact aPw n hn es hl hes n 0 1 (by omega) (by decide) rfl
end Cf
namespace P
def cmp_isNaN_int.f (a0:Int):Option (Bool):=some (a0 != a0)
theorem cmp_isNaN_int.calls (a0:Int) (r:Bool) (w:World) (h:cmp_isNaN_int.f a0=some r) :
  Calls Try.prog 131 #[.int .i64 a0] w λe w'=>e = .returned (.bool r)/\aB8 w w':=by
 have H:(some (a0 != a0))=some r:=h;clear h;obtain rfl:=zdI H;go_enter Try.func131,Try.ntmps131;go_wp2;go_ret;exact⟨zz5,by repeat(first|exact aB8.refl _|apply aB8.step)⟩
def cmp_Compare_int.f (a0:Int) (a1:Int):Option (Int):=(cmp_isNaN_int.f a0).bind λbP=>((cmp_isNaN_int.f a1).bind λaX=>(if bP=true then(if aX=true then(some 0) else(some (-1))) else(if aX=true then(some 1) else(if a0<a1 then(some (-1)) else(if a0>a1 then(some 1) else(some 0))))))
theorem cmp_Compare_int.calls (a0:Int) (a1:Int) (r:Int) (w:World) (h:cmp_Compare_int.f a0 a1=some r) :
  Calls Try.prog 112 #[.int .i64 a0,.int .i64 a1] w λe w'=>e = .returned (.int .i64 r)/\aB8 w w':=by
 have H:((cmp_isNaN_int.f a0).bind λbP=>((cmp_isNaN_int.f a1).bind λaX=>(if bP=true then(if aX=true then(some 0) else(some (-1))) else(if aX=true then(some 1) else(if a0<a1 then(some (-1)) else(if a0>a1 then(some 1) else(some 0)))))))=some r:=h;clear h;obtain⟨bP,A30,H⟩:=zO_ H;(try dsimp only at H);have A3:=zK_ A30;clear A30;obtain⟨aX,A40,H⟩:=zO_ H;(try dsimp only at H);have A4:=zK_ A40;clear A40;by_cases c5:bP=true
 ·subst c5;rw[if_pos rfl]at H;by_cases c6:aX=true
  ·subst c6;rw[if_pos rfl]at H;obtain rfl:=zdI H;go_enter Try.func112,Try.ntmps112;(go_wp2_with (first|((with_reducible refine aAa (f:=131) rfl ?_);refine aBg (some 8) rfl rfl Try.func131 (by kernel_rfl) rfl #[.int .i64 a0] rfl zz3 ?_;(with_reducible refine(cmp_isNaN_int.calls a0 true _ A3.out).mono ?_);rintro e w' ⟨rfl,⟨nd,rfl⟩⟩;refine⟨_,rfl,?_⟩)|((with_reducible refine aAa (f:=131) rfl ?_);refine aBg (some 10) rfl rfl Try.func131 (by kernel_rfl) rfl #[.int .i64 a1] rfl zz3 ?_;(with_reducible refine(cmp_isNaN_int.calls a1 true _ A4.out).mono ?_);rintro e w' ⟨rfl,⟨nd,rfl⟩⟩;refine⟨_,rfl,?_⟩)));go_ret;exact⟨zz5,by repeat(first|exact aB8.refl _|apply aB8.step)⟩
  replace c6:=zdB c6;subst c6;rw[if_neg (show ¬ (false=true) by decide)]at H;obtain rfl:=zdI H;go_enter Try.func112,Try.ntmps112;(go_wp2_with (first|((with_reducible refine aAa (f:=131) rfl ?_);refine aBg (some 8) rfl rfl Try.func131 (by kernel_rfl) rfl #[.int .i64 a0] rfl zz3 ?_;(with_reducible refine(cmp_isNaN_int.calls a0 true _ A3.out).mono ?_);rintro e w' ⟨rfl,⟨nd,rfl⟩⟩;refine⟨_,rfl,?_⟩)|((with_reducible refine aAa (f:=131) rfl ?_);refine aBg (some 10) rfl rfl Try.func131 (by kernel_rfl) rfl #[.int .i64 a1] rfl zz3 ?_;(with_reducible refine(cmp_isNaN_int.calls a1 false _ A4.out).mono ?_);rintro e w' ⟨rfl,⟨nd,rfl⟩⟩;refine⟨_,rfl,?_⟩)));go_ret;exact⟨zz5,by repeat(first|exact aB8.refl _|apply aB8.step)⟩
 replace c5:=zdB c5;subst c5;rw[if_neg (show ¬ (false=true) by decide)]at H;by_cases c7:aX=true
 ·subst c7;rw[if_pos rfl]at H;obtain rfl:=zdI H;go_enter Try.func112,Try.ntmps112;(go_wp2_with (first|((with_reducible refine aAa (f:=131) rfl ?_);refine aBg (some 8) rfl rfl Try.func131 (by kernel_rfl) rfl #[.int .i64 a0] rfl zz3 ?_;(with_reducible refine(cmp_isNaN_int.calls a0 false _ A3.out).mono ?_);rintro e w' ⟨rfl,⟨nd,rfl⟩⟩;refine⟨_,rfl,?_⟩)|((with_reducible refine aAa (f:=131) rfl ?_);refine aBg (some 10) rfl rfl Try.func131 (by kernel_rfl) rfl #[.int .i64 a1] rfl zz3 ?_;(with_reducible refine(cmp_isNaN_int.calls a1 true _ A4.out).mono ?_);rintro e w' ⟨rfl,⟨nd,rfl⟩⟩;refine⟨_,rfl,?_⟩)));go_ret;exact⟨zz5,by repeat(first|exact aB8.refl _|apply aB8.step)⟩
 replace c7:=zdB c7;subst c7;rw[if_neg (show ¬ (false=true) by decide)]at H;by_cases c8:a0<a1
 ·rw[if_pos c8]at H;have i3:=zdY c8;clear c8;obtain rfl:=zdI H;go_enter Try.func112,Try.ntmps112;(go_wp2_with (first|((with_reducible refine aAa (f:=131) rfl ?_);refine aBg (some 8) rfl rfl Try.func131 (by kernel_rfl) rfl #[.int .i64 a0] rfl zz3 ?_;(with_reducible refine(cmp_isNaN_int.calls a0 false _ A3.out).mono ?_);rintro e w' ⟨rfl,⟨nd,rfl⟩⟩;refine⟨_,rfl,?_⟩)|((with_reducible refine aAa (f:=131) rfl ?_);refine aBg (some 10) rfl rfl Try.func131 (by kernel_rfl) rfl #[.int .i64 a1] rfl zz3 ?_;(with_reducible refine(cmp_isNaN_int.calls a1 false _ A4.out).mono ?_);rintro e w' ⟨rfl,⟨nd,rfl⟩⟩;refine⟨_,rfl,?_⟩)));go_ret;exact⟨zz5,by repeat(first|exact aB8.refl _|apply aB8.step)⟩
 rw[if_neg c8]at H;have i3:=zdN c8;clear c8;by_cases c9:a0>a1
 ·rw[if_pos c9]at H;have j6:decide (a1<a0)=true:=zdY c9;clear c9;obtain rfl:=zdI H;go_enter Try.func112,Try.ntmps112;(go_wp2_with (first|((with_reducible refine aAa (f:=131) rfl ?_);refine aBg (some 8) rfl rfl Try.func131 (by kernel_rfl) rfl #[.int .i64 a0] rfl zz3 ?_;(with_reducible refine(cmp_isNaN_int.calls a0 false _ A3.out).mono ?_);rintro e w' ⟨rfl,⟨nd,rfl⟩⟩;refine⟨_,rfl,?_⟩)|((with_reducible refine aAa (f:=131) rfl ?_);refine aBg (some 10) rfl rfl Try.func131 (by kernel_rfl) rfl #[.int .i64 a1] rfl zz3 ?_;(with_reducible refine(cmp_isNaN_int.calls a1 false _ A4.out).mono ?_);rintro e w' ⟨rfl,⟨nd,rfl⟩⟩;refine⟨_,rfl,?_⟩)));go_ret;exact⟨zz5,by repeat(first|exact aB8.refl _|apply aB8.step)⟩
 rw[if_neg c9]at H;have j6:decide (a1<a0)=false:=zdN c9;clear c9;obtain rfl:=zdI H;go_enter Try.func112,Try.ntmps112;(go_wp2_with (first|((with_reducible refine aAa (f:=131) rfl ?_);refine aBg (some 8) rfl rfl Try.func131 (by kernel_rfl) rfl #[.int .i64 a0] rfl zz3 ?_;(with_reducible refine(cmp_isNaN_int.calls a0 false _ A3.out).mono ?_);rintro e w' ⟨rfl,⟨nd,rfl⟩⟩;refine⟨_,rfl,?_⟩)|((with_reducible refine aAa (f:=131) rfl ?_);refine aBg (some 10) rfl rfl Try.func131 (by kernel_rfl) rfl #[.int .i64 a1] rfl zz3 ?_;(with_reducible refine(cmp_isNaN_int.calls a1 false _ A4.out).mono ?_);rintro e w' ⟨rfl,⟨nd,rfl⟩⟩;refine⟨_,rfl,?_⟩)));go_ret;exact⟨zz5,by repeat(first|exact aB8.refl _|apply aB8.step)⟩
def aE3.f (aE:Int) (mJ:Int) (hY:Int) (pU:Int):Option (Int):=(cmp_Compare_int.f aE hY).bind λbE=>(if bE=0 then((cmp_Compare_int.f mJ pU).bind λgV=>(some gV)) else(some bE))
theorem aE3.calls (aE:Int) (mJ:Int) (hY:Int) (pU:Int) (r:Int) (w:World) (h:aE3.f aE mJ hY pU=some r) :
  Calls Try.prog 85 #[.agg #[.int .i64 aE,.int .i64 mJ],.agg #[.int .i64 hY,.int .i64 pU]] w λe w'=>e = .returned (.int .i64 r)/\Below w.heap.size w w':=by
 have aUl:=Try.underlying73;have HB:=zK_ (Below.refl w.heap.size w);have H:((cmp_Compare_int.f aE hY).bind λbE=>(if bE=0 then((cmp_Compare_int.f mJ pU).bind λgV=>(some gV)) else(some bE)))=some r:=h;clear h;obtain⟨bE,A30,H⟩:=zO_ H;(try dsimp only at H);have A3:=zK_ A30;clear A30;by_cases c4:bE=0;rotate_left
 ·rw[if_neg c4]at H;have iI:(bE==0)=false:=beq_eq_false_iff_ne.mpr c4;have wX:(bE != 0)=true:=bne_iff_ne.mpr c4;obtain rfl:=zdI H;go_enter Try.func85,Try.ntmps85;(go_wp2_with (first|((with_reducible refine aAw (N:=2) rfl ?_);refine aAq ?hg (N:=2) ?hd (cs:=#[.int .i64 aE,.int .i64 mJ]) (t:=73) ?hr ?_;(case hd=>rfl);(case hg=>rfl);(case hr=>exact aDq);intro aD hg w11 hbox hb;have n_:=zA4 (aA3 zz2 hb) hbox (aE1:w.heap.size<=aD) (aE1:w.heap.size<=aD);clear HB;obtain⟨HB,aA,aDt,aDe⟩:=n_;clear hb hbox hg)|((with_reducible refine aAw (N:=3) rfl ?_);refine aAq ?hg (N:=3) ?hd (cs:=#[.int .i64 hY,.int .i64 pU]) (t:=73) ?hr ?_;(case hd=>rfl);(case hg=>rfl);(case hr=>exact aDq);intro aW hg w12 hbox hb;have n_:=zA7 (aA4 (g:=aD) (o:=.cells #[.int .i64 aE,.int .i64 mJ] 73 (0,0)) zz0 hb) (aA3 zz1 hb) hbox (aFb:w.heap.size<=aW) (aFb:w.heap.size<=aW) (by rw[hg];exact Nat.ne_of_lt (aCi (g:=aD) (o:=.cells #[.int .i64 aE,.int .i64 mJ] 73 (0,0)) zz0):aD≠aW) (by rw[hg];exact Nat.ne_of_gt (aCi (g:=aD) (o:=.cells #[.int .i64 aE,.int .i64 mJ] 73 (0,0)) zz0):aW≠aD);clear aA HB;obtain⟨aA,HB,aH,aG8,aEv,cO,dB⟩:=n_;clear hb hbox hg;have r5:=cO.out;have rZ:=dB.out;have iO:=aCg aA;have iN:=aCf aA;have iM:=aA0 aA.out 0;have iL:=aA0 aA.out 1;have eT:=aCg aH;have eS:=aCf aH;have eR:=aA0 aH.out 0;have eQ:=aA0 aH.out 1)|((with_reducible refine aAa (f:=112) rfl ?_);refine aBg (some 10) rfl rfl Try.func112 (by kernel_rfl) rfl #[.int .i64 aE,.int .i64 hY] rfl zz3 ?_;(with_reducible refine(cmp_Compare_int.calls aE hY bE _ A3.out).mono ?_);rintro e w' ⟨rfl,⟨nd,rfl⟩⟩;refine⟨_,rfl,?_⟩)));go_ret;exact⟨zz9,aP8⟩
 rw[if_pos c4]at H;have iI:(bE==0)=true:=beq_iff_eq.mpr c4;have wX:(bE != 0)=false:=bne_eq_false_iff_eq.mpr c4;clear c4;obtain⟨gV,A50,H⟩:=zO_ H;(try dsimp only at H);have A5:=zK_ A50;clear A50;obtain rfl:=zdI H;go_enter Try.func85,Try.ntmps85;(go_wp2_with (first|((with_reducible refine aAw (N:=2) rfl ?_);refine aAq ?hg (N:=2) ?hd (cs:=#[.int .i64 aE,.int .i64 mJ]) (t:=73) ?hr ?_;(case hd=>rfl);(case hg=>rfl);(case hr=>exact aDq);intro aD hg w6 hbox hb;have n_:=zA4 (aA3 zz2 hb) hbox (aE1:w.heap.size<=aD) (aE1:w.heap.size<=aD);clear HB;obtain⟨HB,aA,aDt,aDe⟩:=n_;clear hb hbox hg)|((with_reducible refine aAw (N:=3) rfl ?_);refine aAq ?hg (N:=3) ?hd (cs:=#[.int .i64 hY,.int .i64 pU]) (t:=73) ?hr ?_;(case hd=>rfl);(case hg=>rfl);(case hr=>exact aDq);intro aW hg w7 hbox hb;have n_:=zA7 (aA4 (g:=aD) (o:=.cells #[.int .i64 aE,.int .i64 mJ] 73 (0,0)) zz0 hb) (aA3 zz1 hb) hbox (aFb:w.heap.size<=aW) (aFb:w.heap.size<=aW) (by rw[hg];exact Nat.ne_of_lt (aCi (g:=aD) (o:=.cells #[.int .i64 aE,.int .i64 mJ] 73 (0,0)) zz0):aD≠aW) (by rw[hg];exact Nat.ne_of_gt (aCi (g:=aD) (o:=.cells #[.int .i64 aE,.int .i64 mJ] 73 (0,0)) zz0):aW≠aD);clear aA HB;obtain⟨aA,HB,aH,aG8,aEv,cO,dB⟩:=n_;clear hb hbox hg;have PQ:=cO.out;have PN:=dB.out;have iZ:=aCg aA;have iY:=aCf aA;have iX:=aA0 aA.out 0;have iW:=aA0 aA.out 1;have eE:=aCg aH;have eD:=aCf aH;have eB:=aA0 aH.out 0;have d9:=aA0 aH.out 1)|((with_reducible refine aAa (f:=112) rfl ?_);refine aBg (some 10) rfl rfl Try.func112 (by kernel_rfl) rfl #[.int .i64 aE,.int .i64 hY] rfl zz3 ?_;(with_reducible refine(cmp_Compare_int.calls aE hY bE _ A3.out).mono ?_);rintro e w' ⟨rfl,⟨nd,rfl⟩⟩;refine⟨_,rfl,?_⟩)|((with_reducible refine aAa (f:=112) rfl ?_);refine aBg (some 18) rfl rfl Try.func112 (by kernel_rfl) rfl #[.int .i64 mJ,.int .i64 pU] rfl zz3 ?_;(with_reducible refine(cmp_Compare_int.calls mJ pU gV _ A5.out).mono ?_);rintro e w' ⟨rfl,⟨nd,rfl⟩⟩;refine⟨_,rfl,?_⟩)));go_ret;exact⟨zz9,aP8⟩
end P
namespace Cf
open P
def bCh (a b:Int):Int:=if a<b then -1 else if a>b then 1 else 0
theorem cmp_eq (a b:Int):cmp_Compare_int.f a b=some (bCh a b):=by
 unfold cmp_Compare_int.f cmp_isNaN_int.f bCh
 simp
 split<;>(try split)<;>rfl
def bEs (a b:E):Int:=if bCh a.f0 b.f0=0 then bCh a.f1 b.f1 else bCh a.f0 b.f0
theorem bBd (a b:E):aE3.f a.f0 a.f1 b.f0 b.f1=some (bEs a b):=by
 unfold aE3.f bEs
 rw[cmp_eq,cmp_eq]
 simp only[Option.bind_some]
 split<;>rfl
theorem bBc (a b:E):bEs a b<0↔¬ leE b a:=by
 unfold bEs bCh leE
 by_cases h:a.f0<b.f0
 ·simp[h];try omega
 ·by_cases h2:a.f0>b.f0
  ·simp[h,h2];try omega
  ·by_cases h3:a.f1<b.f1
   ·simp[h,h2,h3];try omega
   ·by_cases h4:a.f1>b.f1
    ·simp[h,h2,h3,h4];try omega
    ·simp[h,h2,h3,h4];try omega
open Classical in
noncomputable def sortedB (es:List E):Bool:=decide (Sorted es)
theorem aGx {es:List E}:sortedB es=true↔Sorted es:=by unfold sortedB;simp
def aEj (es:List E) (i:Nat):Prop:=∀ j,i<=j->(h:j+1<es.length)->leE es[j] es[j+1]
theorem aEj.all {es:List E} (h:aEj es 0):sortedB es=true:=aGx.2 (λj hj=>h j (Nat.zero_le _) hj)
theorem aEj.none {es:List E} {i:Nat} (h:i+1<es.length) (hn:¬ leE es[i] es[i+1]):sortedB es=false:=by
 cases hb:sortedB es with
 | false=>rfl
 | true=>exact absurd (aGx.1 hb i h) hn
theorem aEj.down {es:List E} {i:Nat} (h:aEj es (i+1)) (hi:i+1<es.length) (hl:leE es[i] es[i+1]):aEj es i:=by
 intro j hj hjl
 by_cases e:j=i
 ·subst e;exact hl
 ·exact h j (by omega) hjl
theorem aUd (es:List E) (A:Option Addr) (c:Nat) (w:World) (hr:Kd.C k73 w A es.length es) (hc:es.length<=c) :
  Calls Try.prog 84 #[.slice A es.length c,.func (.func 85) #[] #[]] w λe w'=>e = .returned (.bool (sortedB es))/\Below w.heap.size w w':=by
 have hlen:=hr.2.1
 have HR:=aA1.mk hr
 have HL:=aA1.mk hlen
 clear hr hlen
 have HB:=aA1.mk (Below.refl w.heap.size w)
 go_enter Try.func84,Try.ntmps84
 go_wp2
 go_loopw [5] (λv wr=>∃ i:Int,v = .int .i64 i/\aA1 (-1<=i/\i<es.length/\aEj es i.toNat)/\aA1 (Below w.heap.size w wr)) (λv _=>(intOf v+1).toNat)
 case atStart=>exact⟨(es.length:Int)-1,by rw[aCv (by have:=HL.out;omega) (by have:=HL.out;omega)],⟨by omega,by omega,λj hj hjl=>by omega⟩,HB⟩
 case round =>
  obtain⟨i,rfl,HI,HB⟩:=hrel
  by_cases h0:0<i
  ·obtain⟨j,hij⟩:∃ j:Nat,i=(j:Int)+1:=⟨(i-1).toNat,by omega⟩
   have hj:=HI.out.2.1
   have hl:=HL.out
   have hw:wrap64 (i-1)=(j:Int):=by rw[aCv (by omega) (by omega)];omega
   have p1:0<=i:=by omega
   have p2:0<=wrap64 (i-1):=by omega
   have q2:wrap64 (i-1)<(es.length:Int):=by omega
   obtain⟨ad,e,hx0,hx1⟩:=aDi HR.out i p1 hj
   cases e
   obtain⟨ad',e,hy0,hy1⟩:=aDi HR.out (wrap64 (i-1)) p2 q2
   cases e
   replace hx0:=(HB.out.cell (World.block_lt_of_cell? w _ hx0)).trans hx0
   replace hx1:=(HB.out.cell (World.block_lt_of_cell? w _ hx1)).trans hx1
   replace hy0:=(HB.out.cell (World.block_lt_of_cell? w _ hy0)).trans hy0
   replace hy1:=(HB.out.cell (World.block_lt_of_cell? w _ hy1)).trans hy1
   have c0:decide (0<i)=true:=zdY h0
   replace p1:=eq_true p1
   have q1:=eq_true hj
   replace p2:=eq_true p2
   replace q2:=eq_true q2
   have HW:=aA1.mk hw
   have HIJ:=aA1.mk hij
   clear hj hl hw hij h0
   go_wp2
   go_still_tail 10,(by kernel_rfl)
   simp only[aF0]
   repeat still_step
   refine wpStill_nil ?_
   change wpList _ _ _ _ _ wr.drew
   have HB':=aA1.mk (aB3 HB.out)
   clear HB hx0 hx1 hy0 hy1
   generalize wr.drew=w2 at HB' ⊢
   have HX:=aA1.mk (bBd (aA2 es i) (aA2 es (wrap64 (i-1))))
   have HC:=aA1.mk (bBc (aA2 es i) (aA2 es (wrap64 (i-1))))
   generalize bEs (aA2 es i) (aA2 es (wrap64 (i-1)))=z at HX HC
   have HE:aA1 (∃ hj:j+1<es.length,aA2 es i=es[j+1]/\aA2 es (wrap64 (i-1))=es[j]):=by
    have hj:j+1<es.length:=by
     have:=HI.out.2.1
     have:=HIJ.out
     omega
    have e1:i=((j+1:Nat):Int):=by have:=HIJ.out;omega
    refine⟨hj,?_,?_⟩
    ·rw[e1,aF4 hj]
    ·rw[HW.out,aF4 (by omega)]
   by_cases hz:z<0
   ·have cz:decide (z<0)=true:=zdY hz
    have HZ:=aA1.mk hz
    clear hz
    go_wp2_with fail
    refine(aE3.calls _ _ _ _ z _ HX.out).mono ?_
    rintro e w3 ⟨rfl,hb⟩
    go_wp2
    go_ret
    obtain⟨hj,e1,e2⟩:=HE.out
    have hs:=aEj.none hj (by rw[<-e1,<-e2];exact HC.out.1 HZ.out)
    exact⟨by rw[hs];rfl,aA3 HB'.out hb⟩
   ·have cz:decide (z<0)=false:=zdN hz
    have HZ:=aA1.mk hz
    clear hz
    go_wp2_with fail
    refine(aE3.calls _ _ _ _ z _ HX.out).mono ?_
    rintro e w3 ⟨rfl,hb⟩
    have HB2:=aA1.mk (aA3 HB'.out hb)
    clear hb
    go_wp2
    go_roundw
    case rel =>
     have hi:=HI.out
     have hw:=HW.out
     have hij:=HIJ.out
     refine⟨wrap64 (i-1),rfl,⟨by omega,by omega,?_⟩,HB2⟩
     obtain⟨hj,e1,e2⟩:=HE.out
     have hle:leE es[j] es[j+1]:=by
      rw[<-e1,<-e2]
      apply Classical.byContradiction
      intro hn
      have h1:=HC.out.2 hn
      have h2:=HZ.out
      omega
     rw[hw,Int.toNat_natCast]
     refine aEj.down ?_ hj hle
     have:=hi.2.2
     rw[hij,show ((j:Int)+1).toNat=j+1 by omega]at this
     exact this
    case measure =>
     have hi:=HI.out
     have hw:=HW.out
     have hij:=HIJ.out
     simp[intOf]
     omega
  ·have c0:decide (0<i)=false:=zdN h0
   have HZ:=aA1.mk h0
   clear h0
   go_wp2
   go_ret
   have:=HI.out
   have h0:=HZ.out
   have hs:aEj es i.toNat:=this.2.2
   rw[show i.toNat=0 by omega]at hs
   have ha:=hs.all
   exact⟨by rw[ha];rfl,HB.out⟩
end Cf
namespace P
def aC6.f (aE:Int) (aC:List (S73)):Option Bool:=some (Cf.gOk aE aC)
theorem aC6.calls (aE:Int) (aQ:Option Addr) (aG:Nat) (aC:List (S73)) (r:Bool) (w:World) (hr0_1:Kd.C k73 w aQ aC.length aC) (hc0_1:aC.length<=aG) (h:aC6.f aE aC=some r) :
  Calls Try.prog 41 #[.agg #[.int .i64 aE,.slice aQ aC.length aG]] w λe w'=>e = .returned (.bool r)/\Below w.heap.size w w':=by
 obtain rfl:=zdI h;clear h;obtain⟨k1,hk1⟩:=(Cf.aUh aE aC).rounds;have HR:=zK_ hr0_1;have HK1:=zK_ hk1;clear hr0_1 hk1;go_enter Try.func41,Try.ntmps41;have HB:=zK_ (aB6 (Below.refl w.heap.size w) (.cells #[.int .i64 aE,.slice aQ aC.length aG] 25));have BK:=zK_ (heap_alloc_new w (.cells #[.int .i64 aE,.slice aQ aC.length aG] 25));by_cases he:Cf.aHb aE aC;rotate_left
 ·have HE:=zK_ he;replace HK1:=zK_ (HK1.out.trans (congrArg some (zdN he)));clear he;(go_wp2_with fail);refine(aBd.calls k1 _ _ _ aC false _ (Kd.aDj HR.out HB.out) hc0_1 HK1.out).mono ?_;rintro e w1 ⟨rfl,hb⟩;have HB1:=zK_ (aA3 HB.out hb);clear hb;go_wp2;go_ret
  have hg:Cf.gOk aE aC=false:=by
   cases hb:Cf.gOk aE aC with
   | false=>rfl
   | true=>exact absurd (Cf.aEp.1 hb).1 HE.out
  exact⟨by rw[hg];rfl,HB1.out⟩
 have HE:=zK_ he;replace HK1:=zK_ (HK1.out.trans (congrArg some (zdY he)));clear he;(go_wp2_with fail);refine(aBd.calls k1 _ _ _ aC true _ (Kd.aDj HR.out HB.out) hc0_1 HK1.out).mono ?_;rintro e w1 ⟨rfl,hb⟩;have HB1:=zK_ (aA3 HB.out hb);have zB:=zK_ (aA4 BK.out hb);clear hb;have hz0:w1.cell? ⟨w.heap.size,0,none⟩=some (.int .i64 aE):=(aAs zB.out 0).trans rfl;have hz1:w1.cell? ⟨w.heap.size,1,none⟩=some (.slice aQ aC.length aG):=(aAs zB.out 1).trans rfl;(go_wp2_with fail);have HS:=zK_ (Cf.aUd aC aQ aG w1 (Kd.aDj HR.out HB1.out) hc0_1);by_cases hs:Cf.Sorted aC;rotate_left
 ·have hsb:Cf.sortedB aC=false:=by
   cases hb:Cf.sortedB aC with
   | false=>rfl
   | true=>exact absurd (Cf.aGx.1 hb) hs
  rw[hsb]at HS;have HSo:=zK_ hs;clear hs hsb;refine HS.out.mono ?_;rintro e w2 ⟨rfl,hb⟩;have HB2:=zK_ (aA3 HB1.out hb);clear hb hz0 hz1;go_wp2;go_ret
  have hg:Cf.gOk aE aC=false:=by
   cases hb:Cf.gOk aE aC with
   | false=>rfl
   | true=>exact absurd (Cf.aEp.1 hb).2.1 HSo.out
  exact⟨by rw[hg];rfl,HB2.out⟩
 have HSo:=zK_ hs;rw[Cf.aGx.2 hs]at HS;clear hs;refine HS.out.mono ?_;rintro e w2 ⟨rfl,hb⟩;have HB2:=zK_ (aA3 HB1.out hb);have PJ:=zK_ (aA4 zB.out hb);clear hb hz0 hz1;have hz0:w2.cell? ⟨w.heap.size,0,none⟩=some (.int .i64 aE):=(aAs PJ.out 0).trans rfl;have hz1:w2.cell? ⟨w.heap.size,1,none⟩=some (.slice aQ aC.length aG):=(aAs PJ.out 1).trans rfl;(go_wp2_with fail);obtain⟨h1,h6,hl,hes⟩:=HE.out;obtain⟨n,rfl⟩:=Int.eq_ofNat_of_zero_le (a:=aE) (by omega);obtain⟨k2,hk2⟩:=(Cf.aXe n ⟨by omega,by omega⟩ aC (by omega) hes).rounds;refine(aAr.calls k2 _ _ _ aC (Cf.aIf n aC) _ (Kd.aDj HR.out HB2.out) hc0_1 hk2).mono ?_;rintro e w3 ⟨rfl,hd⟩;have HB3:=zK_ (aA3 HB2.out hd);clear hd hk2 h1 h6 hl hes
 have hg:Cf.gOk n aC=Cf.aIf n aC:=by
  rw[Bool.eq_iff_iff,Cf.aEp,Cf.aLe];exact⟨λh=>h.2.2,λh=>⟨HE.out,HSo.out,h⟩⟩
 have HG:=zK_ hg;clear hg;generalize Cf.aIf n aC=z at HG ⊢;cases z
 ·go_wp2;go_ret;exact⟨by rw[HG.out];rfl,HB3.out⟩
 ·go_wp2;go_ret;exact⟨by rw[HG.out];rfl,HB3.out⟩
def aB7.l0:Nat->Int->Int->List Int->Int->Int->Option (Bool)
 | 0,_,_,_,_,_=>none
 | k+1,x1,x2,x9,fK,eJ=>if eJ<fK then(if 0<=eJ then(if eJ<(x9.length:Int) then((aDs.f (rd x9 eJ) x1 x2).bind λaX=>(if aX=true then(aB7.l0 k x1 x2 x9 fK (wrap64 (eJ+1))) else(some false))) else(none)) else(none)) else(some true)
def aB7.f (k:Nat) (l0:List Int) (a1:Int) (a2:Int):Option (Bool):=aB7.l0 k a1 a2 l0 (l0.length:Int) 0
theorem aB7.aBa:∀ k,(∀ y0 y1 y2 y3 y4,LeO (aB7.l0 k y0 y1 y2 y3 y4) (aB7.l0 (k+1) y0 y1 y2 y3 y4))
 | 0=>λ_ _ _ _ _ r h=>by simp[aB7.l0]at h
 | k+1=>by
  have ih0:=aB7.aBa k
  ·intro y0 y1 y2 y3 y4
   unfold aB7.l0
   exact zm0
theorem aB7.mono:∀ a0 a1 a2 k,LeO (aB7.f k a0 a1 a2) (aB7.f (k+1) a0 a1 a2):=by
 intro a0 a1 a2 k;have ih0:=aB7.aBa k;unfold aB7.f;exact zm0
theorem aB7.calls (k:Nat) (A0:Option Addr) (c0:Nat) (l0:List Int) (a1:Int) (a2:Int) (r:Bool) (w:World) (hr0:Kd.C (Kd.int .i64) w A0 l0.length l0) (hc0:l0.length<=c0) (h:aB7.f k l0 a1 a2=some r) :
  Calls Try.prog 58 #[.slice A0 l0.length c0,.int .i64 a1,.int .i64 a2] w λe w'=>e = .returned (.bool r)/\aB8 w w':=by
 have HR0:=zK_ hr0;have HC0:=zK_ hc0;clear hr0 hc0;have H:(aB7.l0 k a1 a2 l0 (l0.length:Int) 0)=some r:=h;clear h;have H':=zK_ H;clear H;go_enter Try.func58,Try.ntmps58;go_wp2;(go_loopg [11] k (λkq v11 w'=>∃ (aT:Int),v11 = .int .i64 aT/\aA1 (aB7.l0 kq a1 a2 l0 (l0.length:Int) aT=some r)/\aA1 (kq<=k)/\aB8 w w'));case atStart=>exact⟨(0),zz5,H',⟨Nat.le_refl _⟩,by repeat(first|exact aB8.refl _|apply aB8.step)⟩
 case round =>
  clear H';(try clear p2);obtain⟨aT,rfl,HA,HK1,⟨m1,rfl⟩⟩:=hrel
  cases gk with
  | zero=>exact absurd HA.out (by simp[aB7.l0])
  | succ k1 =>
   have H:=HA.out;clear HA;simp only[aB7.l0]at H;by_cases c4:aT<(l0.length:Int);rotate_left
   ·rw[if_neg c4]at H;have iI:=zdN c4;clear c4;obtain rfl:=zdI H;go_wp2;go_ret;exact⟨zz5,by repeat(first|exact aB8.refl _|apply aB8.step)⟩
   rw[if_pos c4]at H;have iI:=zdY c4;clear c4;by_cases c5:0<=aT;rotate_left
   ·rw[if_neg c5]at H;exact absurd H (by simp)
   rw[if_pos c5]at H;have fL:=zdY c5;clear c5;by_cases c6:aT<(l0.length:Int);rotate_left
   ·rw[if_neg c6]at H;exact absurd H (by simp)
   rw[if_pos c6]at H;have iT:=zdY c6;clear c6;obtain⟨aX,A70,H⟩:=zO_ H;(try dsimp only at H);have A7:=zK_ A70;clear A70;by_cases c8:aX=true;rotate_left
   ·replace c8:=zdB c8;subst c8;rw[if_neg (show ¬ (false=true) by decide)]at H;obtain rfl:=zdI H;have aE0:0<=(aT:Int):=zdT zz4;have aDz:aT<(l0.length:Int):=zdT zz4;obtain⟨fC,aG5,bU⟩:=Kd.aCz HR0.out aT aE0 aDz;cases aG5;replace aE0:=eq_true aE0;replace aDz:=eq_true aDz;(go_wp2_with (first|((with_reducible refine aAa (f:=79) rfl ?_);refine aBg (some 18) rfl rfl Try.func79 (by kernel_rfl) rfl #[.int .i64 (rd l0 aT),.int .i64 a1,.int .i64 a2] rfl zz3 ?_;(with_reducible refine(aDs.calls (rd l0 aT) a1 a2 false _ A7.out).mono ?_);rintro e w' ⟨rfl,⟨nd,rfl⟩⟩;refine⟨_,rfl,?_⟩)));go_ret;exact⟨zz5,by repeat(first|exact aB8.refl _|apply aB8.step)⟩
   subst c8;rw[if_pos rfl]at H;have H':=zK_ H;clear H;have aE0:0<=(aT:Int):=zdT zz4;have aDz:aT<(l0.length:Int):=zdT zz4;obtain⟨fC,aG5,bU⟩:=Kd.aCz HR0.out aT aE0 aDz;cases aG5;replace aE0:=eq_true aE0;replace aDz:=eq_true aDz;(go_wp2_with (first|((with_reducible refine aAa (f:=79) rfl ?_);refine aBg (some 18) rfl rfl Try.func79 (by kernel_rfl) rfl #[.int .i64 (rd l0 aT),.int .i64 a1,.int .i64 a2] rfl zz3 ?_;(with_reducible refine(aDs.calls (rd l0 aT) a1 a2 true _ A7.out).mono ?_);rintro e w' ⟨rfl,⟨nd,rfl⟩⟩;refine⟨_,rfl,?_⟩)));go_roundg k1;(case measure=>have:=HK1.out;omega);case rel=>exact⟨(wrap64 (aT+1)),zz5,H',⟨aFc⟩,by repeat(first|exact aB8.refl _|apply aB8.step)⟩
def aC7.f (k:Nat) (aE:Int) (aC:List (S73)) (l1:List Int):Option (Bool):=(aC6.f aE aC).bind λaX=>(if aX=true then(if(l1.length:Int)=aE then((aB7.f k l1 (-60) 60).bind λbE=>(some bE)) else(some false)) else(some false))
theorem aC7.mono:∀ a0 a1 a2 k,LeO (aC7.f k a0 a1 a2) (aC7.f (k+1) a0 a1 a2):=by
 intro a0 a1 a2 k;unfold aC7.f;repeat' first|(with_reducible apply aB7.mono)|(with_reducible exact LeO.refl _)|(with_reducible exact LeO.none _)|(with_reducible refine LeO.ite ?_ ?_)|(with_reducible refine LeO.bind ?_ (λ_=>?_))|apply aB7.mono|exact LeO.none _|refine LeO.ite ?_ ?_|refine LeO.bind ?_ (λ_=>?_)
theorem aC7.calls (k:Nat) (aE:Int) (aQ:Option Addr) (aG:Nat) (aC:List (S73)) (A1:Option Addr) (c1:Nat) (l1:List Int) (r:Bool) (w:World) (hr0_1:Kd.C k73 w aQ aC.length aC) (hc0_1:aC.length<=aG) (hr1:Kd.C (Kd.int .i64) w A1 l1.length l1) (hc1:l1.length<=c1) (h:aC7.f k aE aC l1=some r) :
  Calls Try.prog 103 #[.agg #[.int .i64 aE,.slice aQ aC.length aG],.slice A1 l1.length c1] w λe w'=>e = .returned (.bool r)/\Below w.heap.size w w':=by
 have aIh:=Try.underlying25;have b7:=zK_ hr0_1;have bY:=zK_ hc0_1;clear hr0_1 hc0_1;have HR1:=zK_ hr1;have HC1:=zK_ hc1;clear hr1 hc1;have HB:=zK_ (Below.refl w.heap.size w);have H:((aC6.f aE aC).bind λaX=>(if aX=true then(if(l1.length:Int)=aE then((aB7.f k l1 (-60) 60).bind λbE=>(some bE)) else(some false)) else(some false)))=some r:=h;clear h;obtain⟨aX,A30,H⟩:=zO_ H;(try dsimp only at H);have A3:=zK_ A30;clear A30;by_cases c4:aX=true;rotate_left
 ·replace c4:=zdB c4;subst c4;rw[if_neg (show ¬ (false=true) by decide)]at H;obtain rfl:=zdI H;go_enter Try.func103,Try.ntmps103;(go_wp2_with (first|((with_reducible refine aAw (N:=2) rfl ?_);(try(refine aBu (by rfl) ?_;dsimp only));refine aAq ?hg (N:=2) ?hd (cs:=#[.int .i64 aE,.slice aQ aC.length aG]) (t:=25) ?hr ?_;(case hd=>rfl);(case hg=>rfl);(case hr=>exact aDq);intro aD hg w15 hbox hb;have n_:=zA4 (aA3 zz2 hb) hbox (aE1:w.heap.size<=aD) (aE1:w.heap.size<=aD);clear HB;obtain⟨HB,aA,aDt,aDe⟩:=n_;clear hb hbox hg;have n7:=aCg aA;have n5:=aCf aA;have nT:=aA0 aA.out 0;have nS:=aA0 aA.out 1)|((with_reducible refine aAa (f:=41) rfl ?_);refine aBg (some 6) rfl rfl Try.func41 (by kernel_rfl) rfl #[.agg #[.int .i64 aE,.slice aQ aC.length aG]] rfl zz3 ?_;(with_reducible refine(aC6.calls aE _ _ aC false _ ?side1 ?side2 A3.out).mono ?_);(case side1=>exact zz7);(case side2=>exact bY.out);rintro e w17 ⟨rfl,hb⟩;refine⟨_,rfl,?_⟩;have n_:=zA2 (aA4 (g:=aD) (o:=.cells #[.int .i64 aE,.slice aQ aC.length aG] 25 (0,0)) zz0 hb) (aA3 zz1 hb);clear aA HB;obtain⟨aA,HB⟩:=n_;clear hb)));go_ret;exact⟨zz9,zz1⟩
 subst c4;rw[if_pos rfl]at H;by_cases c5:(l1.length:Int)=aE;rotate_left
 ·rw[if_neg c5]at H;have fL:((l1.length:Int)==aE)=false:=beq_eq_false_iff_ne.mpr c5;have qM:((l1.length:Int) != aE)=true:=bne_iff_ne.mpr c5;obtain rfl:=zdI H;go_enter Try.func103,Try.ntmps103;(go_wp2_with (first|((with_reducible refine aAw (N:=2) rfl ?_);(try(refine aBu (by rfl) ?_;dsimp only));refine aAq ?hg (N:=2) ?hd (cs:=#[.int .i64 aE,.slice aQ aC.length aG]) (t:=25) ?hr ?_;(case hd=>rfl);(case hg=>rfl);(case hr=>exact aDq);intro aD hg w11 hbox hb;have n_:=zA4 (aA3 zz2 hb) hbox (aE1:w.heap.size<=aD) (aE1:w.heap.size<=aD);clear HB;obtain⟨HB,aA,aDt,aDe⟩:=n_;clear hb hbox hg;have kP:=aCg aA;have kO:=aCf aA;have kL:=aA0 aA.out 0;have kK:=aA0 aA.out 1)|((with_reducible refine aAa (f:=41) rfl ?_);refine aBg (some 6) rfl rfl Try.func41 (by kernel_rfl) rfl #[.agg #[.int .i64 aE,.slice aQ aC.length aG]] rfl zz3 ?_;(with_reducible refine(aC6.calls aE _ _ aC true _ ?side1 ?side2 A3.out).mono ?_);(case side1=>exact zz7);(case side2=>exact bY.out);rintro e w13 ⟨rfl,hb⟩;refine⟨_,rfl,?_⟩;have n_:=zA2 (aA4 (g:=aD) (o:=.cells #[.int .i64 aE,.slice aQ aC.length aG] 25 (0,0)) zz0 hb) (aA3 zz1 hb);clear aA HB;obtain⟨aA,HB⟩:=n_;clear hb;have iO:=aCg aA;have iN:=aCf aA;have iM:=aA0 aA.out 0;have iL:=aA0 aA.out 1)));go_ret;exact⟨zz9,zz1⟩
 rw[if_pos c5]at H;have fL:((l1.length:Int)==aE)=true:=beq_iff_eq.mpr c5;have qM:((l1.length:Int) != aE)=false:=bne_eq_false_iff_eq.mpr c5;clear c5;obtain⟨bE,A60,H⟩:=zO_ H;(try dsimp only at H);have A6:=zK_ A60;clear A60;obtain rfl:=zdI H;go_enter Try.func103,Try.ntmps103;(go_wp2_with (first|((with_reducible refine aAw (N:=2) rfl ?_);(try(refine aBu (by rfl) ?_;dsimp only));refine aAq ?hg (N:=2) ?hd (cs:=#[.int .i64 aE,.slice aQ aC.length aG]) (t:=25) ?hr ?_;(case hd=>rfl);(case hg=>rfl);(case hr=>exact aDq);intro aD hg w7 hbox hb;have n_:=zA4 (aA3 zz2 hb) hbox (aE1:w.heap.size<=aD) (aE1:w.heap.size<=aD);clear HB;obtain⟨HB,aA,aDt,aDe⟩:=n_;clear hb hbox hg;have jZ:=aCg aA;have jY:=aCf aA;have jX:=aA0 aA.out 0;have jW:=aA0 aA.out 1)|((with_reducible refine aAa (f:=41) rfl ?_);refine aBg (some 6) rfl rfl Try.func41 (by kernel_rfl) rfl #[.agg #[.int .i64 aE,.slice aQ aC.length aG]] rfl zz3 ?_;(with_reducible refine(aC6.calls aE _ _ aC true _ ?side1 ?side2 A3.out).mono ?_);(case side1=>exact zz7);(case side2=>exact bY.out);rintro e w9 ⟨rfl,hb⟩;refine⟨_,rfl,?_⟩;have n_:=zA2 (aA4 (g:=aD) (o:=.cells #[.int .i64 aE,.slice aQ aC.length aG] 25 (0,0)) zz0 hb) (aA3 zz1 hb);clear aA HB;obtain⟨aA,HB⟩:=n_;clear hb;have eE:=aCg aA;have eD:=aCf aA;have eB:=aA0 aA.out 0;have d9:=aA0 aA.out 1)|(go_at_call 58;(with_reducible refine(aB7.calls k _ _ l1 (-60) 60 bE _ ?side1 ?side2 A6.out).mono ?_);(case side1=>exact aP9);(case side2=>exact HC1.out);rintro e w' ⟨rfl,⟨nd,rfl⟩⟩)));go_ret;exact⟨zz9,zz1⟩
def aBi.f (k:Nat) (aE:Int) (aC:List (S73)) (l1:List Int):Option (Bool):=(aC7.f k aE aC l1).bind λaX=>(if aX=true then((aCl.f k l1).bind λbE=>(some (bE==0))) else(some false))
theorem aBi.mono:∀ a0 a1 a2 k,LeO (aBi.f k a0 a1 a2) (aBi.f (k+1) a0 a1 a2):=by
 intro a0 a1 a2 k;unfold aBi.f;repeat' first|(with_reducible apply aCl.mono)|(with_reducible apply aC7.mono)|(with_reducible exact LeO.refl _)|(with_reducible exact LeO.none _)|(with_reducible refine LeO.ite ?_ ?_)|(with_reducible refine LeO.bind ?_ (λ_=>?_))|apply aCl.mono|apply aC7.mono|exact LeO.none _|refine LeO.ite ?_ ?_|refine LeO.bind ?_ (λ_=>?_)
theorem aBi.calls (k:Nat) (aE:Int) (aQ:Option Addr) (aG:Nat) (aC:List (S73)) (A1:Option Addr) (c1:Nat) (l1:List Int) (r:Bool) (w:World) (hr0_1:Kd.C k73 w aQ aC.length aC) (hc0_1:aC.length<=aG) (hr1:Kd.C (Kd.int .i64) w A1 l1.length l1) (hc1:l1.length<=c1) (h:aBi.f k aE aC l1=some r) :
  Calls Try.prog 68 #[.agg #[.int .i64 aE,.slice aQ aC.length aG],.slice A1 l1.length c1] w λe w'=>e = .returned (.bool r)/\Below w.heap.size w w':=by
 have aIh:=Try.underlying25;have b7:=zK_ hr0_1;have bY:=zK_ hc0_1;clear hr0_1 hc0_1;have HR1:=zK_ hr1;have HC1:=zK_ hc1;clear hr1 hc1;have HB:=zK_ (Below.refl w.heap.size w);have H:((aC7.f k aE aC l1).bind λaX=>(if aX=true then((aCl.f k l1).bind λbE=>(some (bE==0))) else(some false)))=some r:=h;clear h;obtain⟨aX,A30,H⟩:=zO_ H;(try dsimp only at H);have A3:=zK_ A30;clear A30;by_cases c4:aX=true;rotate_left
 ·replace c4:=zdB c4;subst c4;rw[if_neg (show ¬ (false=true) by decide)]at H;obtain rfl:=zdI H;go_enter Try.func68,Try.ntmps68;(go_wp2_with (first|((with_reducible refine aAw (N:=2) rfl ?_);refine aAq ?hg (N:=2) ?hd (cs:=#[.int .i64 aE,.slice aQ aC.length aG]) (t:=25) ?hr ?_;(case hd=>rfl);(case hg=>rfl);(case hr=>exact aDq);intro aD hg w9 hbox hb;have n_:=zA4 (aA3 zz2 hb) hbox (aE1:w.heap.size<=aD) (aE1:w.heap.size<=aD);clear HB;obtain⟨HB,aA,aDt,aDe⟩:=n_;clear hb hbox hg;have eE:=aCg aA;have eD:=aCf aA;have eB:=aA0 aA.out 0;have d9:=aA0 aA.out 1)|((with_reducible refine aAa (f:=103) rfl ?_);refine aBg (some 7) rfl rfl Try.func103 (by kernel_rfl) rfl #[.agg #[.int .i64 aE,.slice aQ aC.length aG],.slice A1 l1.length c1] rfl zz3 ?_;(with_reducible refine(aC7.calls k aE _ _ aC _ _ l1 false _ ?side1 ?side2 ?side3 ?side4 A3.out).mono ?_);(case side1=>exact zz7);(case side2=>exact bY.out);(case side3=>exact aP9);(case side4=>exact HC1.out);rintro e w11 ⟨rfl,hb⟩;refine⟨_,rfl,?_⟩;have n_:=zA2 (aA4 (g:=aD) (o:=.cells #[.int .i64 aE,.slice aQ aC.length aG] 25 (0,0)) zz0 hb) (aA3 zz1 hb);clear aA HB;obtain⟨aA,HB⟩:=n_;clear hb)));go_ret;exact⟨zz9,zz1⟩
 subst c4;rw[if_pos rfl]at H;obtain⟨bE,A50,H⟩:=zO_ H;(try dsimp only at H);have A5:=zK_ A50;clear A50;obtain rfl:=zdI H;go_enter Try.func68,Try.ntmps68;(go_wp2_with (first|((with_reducible refine aAw (N:=2) rfl ?_);refine aAq ?hg (N:=2) ?hd (cs:=#[.int .i64 aE,.slice aQ aC.length aG]) (t:=25) ?hr ?_;(case hd=>rfl);(case hg=>rfl);(case hr=>exact aDq);intro aD hg w6 hbox hb;have n_:=zA4 (aA3 zz2 hb) hbox (aE1:w.heap.size<=aD) (aE1:w.heap.size<=aD);clear HB;obtain⟨HB,aA,aDt,aDe⟩:=n_;clear hb hbox hg;have iH:=aCg aA;have iG:=aCf aA;have iF:=aA0 aA.out 0;have iE:=aA0 aA.out 1)|((with_reducible refine aAa (f:=103) rfl ?_);refine aBg (some 7) rfl rfl Try.func103 (by kernel_rfl) rfl #[.agg #[.int .i64 aE,.slice aQ aC.length aG],.slice A1 l1.length c1] rfl zz3 ?_;(with_reducible refine(aC7.calls k aE _ _ aC _ _ l1 true _ ?side1 ?side2 ?side3 ?side4 A3.out).mono ?_);(case side1=>exact zz7);(case side2=>exact bY.out);(case side3=>exact aP9);(case side4=>exact HC1.out);rintro e w8 ⟨rfl,hb⟩;refine⟨_,rfl,?_⟩;have n_:=zA2 (aA4 (g:=aD) (o:=.cells #[.int .i64 aE,.slice aQ aC.length aG] 25 (0,0)) zz0 hb) (aA3 zz1 hb);clear aA HB;obtain⟨aA,HB⟩:=n_;clear hb)|(go_at_call 31;(with_reducible refine(aCl.calls k _ _ l1 bE _ ?side1 ?side2 A5.out).mono ?_);(case side1=>exact aP9);(case side2=>exact HC1.out);rintro e w' ⟨rfl,⟨nd,rfl⟩⟩)));go_ret;exact⟨zz9,zz1⟩
def aCk.f (l0:List Int):Option (List Int):=if([]:List Int).length+l0.length<17592186044416 then(some (([]:List Int)++l0)) else(none)
theorem aCk.calls (A0:Option Addr) (c0:Nat) (l0:List Int) (r:List Int) (w:World) (hr0:Kd.C (Kd.int .i64) w A0 l0.length l0) (hc0:l0.length<=c0) (h:aCk.f l0=some r) :
  Calls Try.prog 43 #[.slice A0 l0.length c0] w λe w'=>∃ v0_:Value,e = .returned (v0_)/\Kd.R (Kd.int .i64) 3 w' w.heap.size (λ_=>True) v0_ r/\Below w.heap.size w w':=by
 have HR0:=zK_ hr0;have HC0:=zK_ hc0;clear hr0 hc0;have HB:=zK_ (Below.refl w.heap.size w);have H:(if([]:List Int).length+l0.length<17592186044416 then(some (([]:List Int)++l0)) else(none))=some r:=h;clear h;by_cases c2:([]:List Int).length+l0.length<17592186044416;rotate_left
 ·rw[if_neg c2]at H;exact absurd H (by simp)
 rw[if_pos c2]at H;have L4:=zK_ c2;clear c2;obtain⟨u0,hy_⟩:∃ y_:List Int,y_=(([]:List Int)++l0):=⟨_,rfl⟩;(replace H:(some u0)=some r:=zzY);have uL:=zK_ hy_;clear hy_;obtain rfl:=zdI H;go_enter Try.func43,Try.ntmps43;(go_wp2_with (first|((with_reducible refine aBk (b:=.append) (xs:=#[.const (.slice none 0 0),.tmp 3]) rfl ?_);at_builtin;refine Kd.aNp (Kd.int .i64) (w0:=w) w.heap.size rfl (.const (.slice none 0 0)) (.tmp 3) 42 3 (.int .i64 0) 8 rfl Try.underlying42 info3 rfl (by decide) (by omega) (.slice none 0 0) ([]:List Int) l0 _ _ _ (λ_=>True) (λ_=>False) rfl rfl ?aO ?aR (λ_ _ h=>h) (λ_ h=>h.elim) ?aF ?aB ?aS ?aL ?_;(case aR=>exact aY9);(case aB=>exact zz2);(case aF=>exact(λ_ _=>trivial));(case aO=>exact((Kd.aSr _ _ _ _ (λ_=>True))));(case aS=>exact(aAj zz2));(case aL=>have:=L4.out;omega);intro bGs w3 ho hb hg hat;rw[<-uL.out]at ho;have n_:=zA2 hb ho;clear HB;obtain⟨HB,m6⟩:=n_;clear ho hb hg hat)));go_ret;exact⟨_,zz9,by(with_reducible repeat(first|apply Kd.aAu|apply Kd.aAt|apply Kd.aB5));exact m6.out,zz2⟩
mutual
def aAy.j0:Nat->Int->Bool->Int->List (S73)->Option (Int)
 | 0,_,_,_,_=>none
 | k+1,x1,mL,aU,aM=>if mL=true then(some 0) else(aAy.l0 k x1 0 aM (aM.length:Int) 0)
def aAy.l0:Nat->Int->Int->List (S73)->Int->Int->Option (Int)
 | 0,_,_,_,_,_=>none
 | k+1,x1,x5,kW,kR,oZ=>if oZ<kR then(if 0<=oZ then(if oZ<(kW.length:Int) then(if((aA2 kW oZ).f0)=x1 then(aAy.l0 k x1 (wrap64 (x5+1)) kW kR (wrap64 (oZ+1))) else(if((aA2 kW oZ).f1)=x1 then(aAy.l0 k x1 (wrap64 (x5+1)) kW kR (wrap64 (oZ+1))) else(aAy.l0 k x1 x5 kW kR (wrap64 (oZ+1))))) else(none)) else(none)) else(some x5)
end
def aAy.f (k:Nat) (aE:Int) (aC:List (S73)) (a1:Int):Option (Int):=if a1<0 then(aAy.j0 k a1 true aE aC) else(aAy.j0 k a1 (decide (a1≥aE)) aE aC)
theorem aAy.aBa:∀ k,(∀ y0 y1 y2 y3,LeO (aAy.j0 k y0 y1 y2 y3) (aAy.j0 (k+1) y0 y1 y2 y3))/\(∀ y0 y1 y2 y3 y4,LeO (aAy.l0 k y0 y1 y2 y3 y4) (aAy.l0 (k+1) y0 y1 y2 y3 y4))
 | 0=>⟨λ_ _ _ _ r h=>by simp[aAy.j0]at h,λ_ _ _ _ _ r h=>by simp[aAy.l0]at h⟩
 | k+1=>by
  obtain⟨ih0,ih1⟩:=aAy.aBa k
  refine⟨?_,?_⟩
  ·intro y0 y1 y2 y3
   unfold aAy.j0
   exact zm1
  ·intro y0 y1 y2 y3 y4
   unfold aAy.l0
   exact zm1
theorem aAy.mono:∀ a0 a1 a2 k,LeO (aAy.f k a0 a1 a2) (aAy.f (k+1) a0 a1 a2):=by
 intro a0 a1 a2 k;obtain⟨ih0,ih1⟩:=aAy.aBa k;unfold aAy.f;exact zm1
theorem aAy.calls (k:Nat) (aE:Int) (aQ:Option Addr) (aG:Nat) (aC:List (S73)) (a1:Int) (r:Int) (w:World) (hr0_1:Kd.C k73 w aQ aC.length aC) (hc0_1:aC.length<=aG) (h:aAy.f k aE aC a1=some r) :
  Calls Try.prog 100 #[.agg #[.int .i64 aE,.slice aQ aC.length aG],.int .i64 a1] w λe w'=>e = .returned (.int .i64 r)/\Below w.heap.size w w':=by
 have aIh:=Try.underlying25;have aUl:=Try.underlying73;have b7:=zK_ hr0_1;have bY:=zK_ hc0_1;clear hr0_1 hc0_1;have HB:=zK_ (Below.refl w.heap.size w);have H:(if a1<0 then(aAy.j0 k a1 true aE aC) else(aAy.j0 k a1 (decide (a1≥aE)) aE aC))=some r:=h;clear h;have HC3:=zK_ H;clear H;go_enter Try.func100,Try.ntmps100;(go_upto_region 1 with (first|((with_reducible refine aAw (N:=2) rfl ?_);refine aAq ?hg (N:=2) ?hd (cs:=#[.int .i64 aE,.slice aQ aC.length aG]) (t:=25) ?hr ?_;(case hd=>rfl);(case hg=>rfl);(case hr=>exact aDq);intro aD hg w4 hbox hb;have n_:=zA4 (aA3 zz2 hb) hbox (aE1:w.heap.size<=aD) (aE1:w.heap.size<=aD);clear HB;obtain⟨HB,aA,aDt,aDe⟩:=n_;clear hb hbox hg)));(try simp only[Act.put,List.setIfInBounds_toArray,List.set_cons_zero,List.set_cons_succ]);go_cut [15] (λv15 wc=>∃ (kq:Nat) (rU:Bool),v15 = .bool rU/\aA1 (aAy.j0 kq a1 rU aE aC=some r)/\aA1 (kq<=k)/\aA1 (wc.heap[aD]? = some (.cells #[.int .i64 aE,(.slice aQ aC.length aG)] 25 (0,0)))/\aA1 (Below w.heap.size w wc))
 case first =>
  have H:=HC3.out;clear HC3;by_cases c5:a1<0
  ·rw[if_pos c5]at H;have fL:=zdY c5;clear c5;(first|rw[fL]|(simp only[aF0,aK5];rw[fL])|skip);have H':=zK_ H;clear H;go_wp2;(go_meet);case rel=>exact⟨_,(true),zz5,H',⟨by first|omega|exact Nat.le_refl _⟩,⟨zz0⟩,⟨zz1⟩⟩
  rw[if_neg c5]at H;have fL:=zdN c5;clear c5;(first|rw[fL]|(simp only[aF0,aK5];rw[fL])|skip);have H':=zK_ H;clear H;have jK:=aCg aA;have jJ:=aCf aA;have jI:=aA0 aA.out 0;have jH:=aA0 aA.out 1;go_wp2;(go_meet);case rel=>exact⟨_,(decide (a1≥aE)),zz5,H',⟨by first|omega|exact Nat.le_refl _⟩,⟨zz0⟩,⟨zz1⟩⟩
 case rest =>
  clear HC3;(try clear c1);(try clear p2);(try clear c5);(try clear fL);(try clear jK);(try clear jJ);(try clear jI);(try clear jH);obtain⟨kq,rU,rfl,HA,HJ2,aA,HB⟩:=hcut
  cases kq with
  | zero=>exact absurd HA.out (by simp[aAy.j0])
  | succ kj2 =>
   have H:=HA.out;clear HA;simp only[aAy.j0]at H;by_cases c7:rU=true
   ·subst c7;rw[if_pos rfl]at H;obtain rfl:=zdI H;go_wp2;go_ret;exact⟨zz9,zz1⟩
   replace c7:=zdB c7;subst c7;rw[if_neg (show ¬ (false=true) by decide)]at H;have H':=zK_ H;clear H;have jZ:=aCg aA;have jY:=aCf aA;have jX:=aA0 aA.out 0;have jW:=aA0 aA.out 1;go_wp2;(go_loopg [5,19] kj2 (λkq v5 v19 w'=>∃ (d4:Int) (eN:Int),v5 = .int .i64 d4/\v19 = .int .i64 eN/\aA1 (aAy.l0 kq a1 d4 aC (aC.length:Int) eN=some r)/\aA1 (kq<=kj2)/\aA1 (w'.heap[aD]? = some (.cells #[.int .i64 aE,(.slice aQ aC.length aG)] 25 (0,0)))/\aA1 (Below w.heap.size w w')));case atStart=>exact⟨(0),(0),zz5,zz5,H',⟨Nat.le_refl _⟩,⟨zz0⟩,⟨zz1⟩⟩
   case round =>
    clear H';(try clear c1);(try clear p2);(try clear c5);(try clear fL);(try clear c7);(try clear jK);(try clear jJ);(try clear jZ);(try clear jY);(try clear jI);(try clear jH);(try clear jX);(try clear jW);(try clear p2);obtain⟨d4,eN,rfl,rfl,HA,HK2,aA,HB⟩:=hrel
    cases gk with
    | zero=>exact absurd HA.out (by simp[aAy.l0])
    | succ k2 =>
     have H:=HA.out;clear HA;simp only[aAy.l0]at H;by_cases c9:eN<(aC.length:Int);rotate_left
     ·rw[if_neg c9]at H;have j6:=zdN c9;clear c9;obtain rfl:=zdI H;go_wp2;go_ret;exact⟨zz9,zz1⟩
     rw[if_pos c9]at H;have j6:=zdY c9;clear c9;by_cases c10:0<=eN;rotate_left
     ·rw[if_neg c10]at H;exact absurd H (by simp)
     rw[if_pos c10]at H;have gN:=zdY c10;clear c10;by_cases c11:eN<(aC.length:Int);rotate_left
     ·rw[if_neg c11]at H;exact absurd H (by simp)
     rw[if_pos c11]at H;have oU:=zdY c11;clear c11;by_cases c12:((aA2 aC eN).f0)=a1
     ·rw[if_pos c12]at H;have oT:(((aA2 aC eN).f0)==a1)=true:=beq_iff_eq.mpr c12;have uG:(((aA2 aC eN).f0) != a1)=false:=bne_eq_false_iff_eq.mpr c12;clear c12;have H':=zK_ H;clear H;have aFe:0<=(eN:Int):=zdT zz4;have aFd:eN<(aC.length:Int):=zdT zz4;obtain⟨d8,aJn,cJ,cW⟩:=aDi b7.out eN aFe aFd;cases aJn;replace cJ:=(HB.out.cell (World.block_lt_of_cell? w _ cJ)).trans cJ;replace cW:=(HB.out.cell (World.block_lt_of_cell? w _ cW)).trans cW;replace aFe:=eq_true aFe;replace aFd:=eq_true aFd;(go_wp2_with (first|((with_reducible refine aAw (N:=7) rfl ?_);refine aAq ?hg (N:=7) ?hd (cs:=#[.int .i64 0,.int .i64 0]) (t:=73) ?hr ?_;(case hd=>rfl);(case hg=>rfl);(case hr=>exact aDq);intro b6 hg w13 hbox hb;have n_:=zA7 (aA4 (g:=aD) (o:=.cells #[.int .i64 aE,.slice (some d8) aC.length aG] 25 (0,0)) zz0 hb) (aA3 zz1 hb) hbox (aFb:w.heap.size<=b6) (aFb:w.heap.size<=b6) (aW1:aD≠b6) (aW0:b6≠aD);clear aA HB;obtain⟨aA,HB,bR,aK6,aK8,cU,dG⟩:=n_;clear hb hbox hg;have xI:=dG.out;have xE:=cU.out;have eT:=aCg bR;have eS:=aCf bR;have eR:=aA0 bR.out 0;have eQ:=aA0 bR.out 1)));go_roundg k2;(case measure=>have:=HJ2.out;have:=HK2.out;omega);case rel=>exact⟨(wrap64 (d4+1)),(wrap64 (eN+1)),zz5,zz5,H',⟨by have:=HJ2.out;have:=HK2.out;omega⟩,⟨aW3⟩,⟨aT0⟩⟩
     rw[if_neg c12]at H;have oT:(((aA2 aC eN).f0)==a1)=false:=beq_eq_false_iff_ne.mpr c12;have uG:(((aA2 aC eN).f0) != a1)=true:=bne_iff_ne.mpr c12;by_cases c16:((aA2 aC eN).f1)=a1;rotate_left
     ·rw[if_neg c16]at H;have l9:(((aA2 aC eN).f1)==a1)=false:=beq_eq_false_iff_ne.mpr c16;have xP:(((aA2 aC eN).f1) != a1)=true:=bne_iff_ne.mpr c16;have H':=zK_ H;clear H;have aFe:0<=(eN:Int):=zdT zz4;have aFd:eN<(aC.length:Int):=zdT zz4;obtain⟨d8,aJn,cJ,cW⟩:=aDi b7.out eN aFe aFd;cases aJn;replace cJ:=(HB.out.cell (World.block_lt_of_cell? w _ cJ)).trans cJ;replace cW:=(HB.out.cell (World.block_lt_of_cell? w _ cW)).trans cW;replace aFe:=eq_true aFe;replace aFd:=eq_true aFd;(go_wp2_with (first|((with_reducible refine aAw (N:=7) rfl ?_);refine aAq ?hg (N:=7) ?hd (cs:=#[.int .i64 0,.int .i64 0]) (t:=73) ?hr ?_;(case hd=>rfl);(case hg=>rfl);(case hr=>exact aDq);intro b6 hg w20 hbox hb;have n_:=zA7 (aA4 (g:=aD) (o:=.cells #[.int .i64 aE,.slice (some d8) aC.length aG] 25 (0,0)) zz0 hb) (aA3 zz1 hb) hbox (aFb:w.heap.size<=b6) (aFb:w.heap.size<=b6) (aW1:aD≠b6) (aW0:b6≠aD);clear aA HB;obtain⟨aA,HB,bR,aK6,aK8,cU,dG⟩:=n_;clear hb hbox hg;have OJ:=dG.out;have NE:=cU.out;have lU:=aCg bR;have lT:=aCf bR;have lM:=aA0 bR.out 0;have lL:=aA0 bR.out 1)));go_roundg k2;(case measure=>have:=HJ2.out;have:=HK2.out;omega);case rel=>exact⟨(d4),(wrap64 (eN+1)),zz5,zz5,H',⟨by have:=HJ2.out;have:=HK2.out;omega⟩,⟨aW3⟩,⟨aT0⟩⟩
     rw[if_pos c16]at H;have l9:(((aA2 aC eN).f1)==a1)=true:=beq_iff_eq.mpr c16;have xP:(((aA2 aC eN).f1) != a1)=false:=bne_eq_false_iff_eq.mpr c16;clear c16;have H':=zK_ H;clear H;have aFe:0<=(eN:Int):=zdT zz4;have aFd:eN<(aC.length:Int):=zdT zz4;obtain⟨d8,aJn,cJ,cW⟩:=aDi b7.out eN aFe aFd;cases aJn;replace cJ:=(HB.out.cell (World.block_lt_of_cell? w _ cJ)).trans cJ;replace cW:=(HB.out.cell (World.block_lt_of_cell? w _ cW)).trans cW;replace aFe:=eq_true aFe;replace aFd:=eq_true aFd;(go_wp2_with (first|((with_reducible refine aAw (N:=7) rfl ?_);refine aAq ?hg (N:=7) ?hd (cs:=#[.int .i64 0,.int .i64 0]) (t:=73) ?hr ?_;(case hd=>rfl);(case hg=>rfl);(case hr=>exact aDq);intro b6 hg w17 hbox hb;have n_:=zA7 (aA4 (g:=aD) (o:=.cells #[.int .i64 aE,.slice (some d8) aC.length aG] 25 (0,0)) zz0 hb) (aA3 zz1 hb) hbox (aFb:w.heap.size<=b6) (aFb:w.heap.size<=b6) (aW1:aD≠b6) (aW0:b6≠aD);clear aA HB;obtain⟨aA,HB,bR,aK6,aK8,cU,dG⟩:=n_;clear hb hbox hg;have qB:=dG.out;have qA:=cU.out;have jS:=aCg bR;have jR:=aCf bR;have jQ:=aA0 bR.out 0;have jP:=aA0 bR.out 1)));go_roundg k2;(case measure=>have:=HJ2.out;have:=HK2.out;omega);case rel=>exact⟨(wrap64 (d4+1)),(wrap64 (eN+1)),zz5,zz5,H',⟨by have:=HJ2.out;have:=HK2.out;omega⟩,⟨aW3⟩,⟨aT0⟩⟩
def aBt.l0:Nat->Int->List Int->Int->Int->Option (Int)
 | 0,_,_,_,_=>none
 | k+1,x1,x7,x8,x9=>if x9<x8 then(if 0<=x9 then(if x9<(x7.length:Int) then(if x9=x1 then(aBt.l0 k x1 x7 x8 (wrap64 (x9+1))) else(if(rd x7 x9)<0 then(some x9) else(aBt.l0 k x1 x7 x8 (wrap64 (x9+1))))) else(none)) else(none)) else(some (-1))
def aBt.f (k:Nat) (l0:List Int) (a1:Int):Option (Int):=aBt.l0 k a1 l0 (l0.length:Int) 0
theorem aBt.aBa:∀ k,(∀ y0 y1 y2 y3,LeO (aBt.l0 k y0 y1 y2 y3) (aBt.l0 (k+1) y0 y1 y2 y3))
 | 0=>λ_ _ _ _ r h=>by simp[aBt.l0]at h
 | k+1=>by
  have ih0:=aBt.aBa k
  ·intro y0 y1 y2 y3
   unfold aBt.l0
   exact zm0
theorem aBt.mono:∀ a0 a1 k,LeO (aBt.f k a0 a1) (aBt.f (k+1) a0 a1):=by
 intro a0 a1 k;have ih0:=aBt.aBa k;unfold aBt.f;exact zm0
theorem aBt.calls (k:Nat) (A0:Option Addr) (c0:Nat) (l0:List Int) (a1:Int) (r:Int) (w:World) (hr0:Kd.C (Kd.int .i64) w A0 l0.length l0) (hc0:l0.length<=c0) (h:aBt.f k l0 a1=some r) :
  Calls Try.prog 104 #[.slice A0 l0.length c0,.int .i64 a1] w λe w'=>e = .returned (.int .i64 r)/\aB8 w w':=by
 have HR0:=zK_ hr0;have HC0:=zK_ hc0;clear hr0 hc0;have H:(aBt.l0 k a1 l0 (l0.length:Int) 0)=some r:=h;clear h;have H':=zK_ H;clear H;go_enter Try.func104,Try.ntmps104;go_wp2;(go_loopg [9] k (λkq v9 w'=>∃ (b8:Int),v9 = .int .i64 b8/\aA1 (aBt.l0 kq a1 l0 (l0.length:Int) b8=some r)/\aA1 (kq<=k)/\aB8 w w'));case atStart=>exact⟨(0),zz5,H',⟨Nat.le_refl _⟩,by repeat(first|exact aB8.refl _|apply aB8.step)⟩
 case round =>
  clear H';(try clear c1);(try clear p2);obtain⟨b8,rfl,HA,HK1,⟨m1,rfl⟩⟩:=hrel
  cases gk with
  | zero=>exact absurd HA.out (by simp[aBt.l0])
  | succ k1 =>
   have H:=HA.out;clear HA;simp only[aBt.l0]at H;by_cases c3:b8<(l0.length:Int);rotate_left
   ·rw[if_neg c3]at H;have i4:=zdN c3;clear c3;obtain rfl:=zdI H;go_wp2;go_ret;exact⟨zz5,by repeat(first|exact aB8.refl _|apply aB8.step)⟩
   rw[if_pos c3]at H;have i4:=zdY c3;clear c3;by_cases c4:0<=b8;rotate_left
   ·rw[if_neg c4]at H;exact absurd H (by simp)
   rw[if_pos c4]at H;have iI:=zdY c4;clear c4;by_cases c5:b8<(l0.length:Int);rotate_left
   ·rw[if_neg c5]at H;exact absurd H (by simp)
   rw[if_pos c5]at H;have fL:=zdY c5;clear c5;by_cases c6:b8=a1
   ·rw[if_pos c6]at H;have iT:(b8==a1)=true:=beq_iff_eq.mpr c6;have nI:(b8 != a1)=false:=bne_eq_false_iff_eq.mpr c6;clear c6;have H':=zK_ H;clear H;have aE0:0<=(b8:Int):=zdT zz4;have aDz:b8<(l0.length:Int):=zdT zz4;obtain⟨fC,aG5,bU⟩:=Kd.aCz HR0.out b8 aE0 aDz;cases aG5;replace aE0:=eq_true aE0;replace aDz:=eq_true aDz;go_wp2;go_roundg k1;(case measure=>have:=HK1.out;omega);case rel=>exact⟨(wrap64 (b8+1)),zz5,H',⟨aFc⟩,by repeat(first|exact aB8.refl _|apply aB8.step)⟩
   rw[if_neg c6]at H;have iT:(b8==a1)=false:=beq_eq_false_iff_ne.mpr c6;have nI:(b8 != a1)=true:=bne_iff_ne.mpr c6;by_cases c7:(rd l0 b8)<0
   ·rw[if_pos c7]at H;have jE:=zdY c7;clear c7;obtain rfl:=zdI H;have aE0:0<=(b8:Int):=zdT zz4;have aDz:b8<(l0.length:Int):=zdT zz4;obtain⟨fC,aG5,bU⟩:=Kd.aCz HR0.out b8 aE0 aDz;cases aG5;replace aE0:=eq_true aE0;replace aDz:=eq_true aDz;go_wp2;go_ret;exact⟨zz5,by repeat(first|exact aB8.refl _|apply aB8.step)⟩
   rw[if_neg c7]at H;have jE:=zdN c7;clear c7;have H':=zK_ H;clear H;have aE0:0<=(b8:Int):=zdT zz4;have aDz:b8<(l0.length:Int):=zdT zz4;obtain⟨fC,aG5,bU⟩:=Kd.aCz HR0.out b8 aE0 aDz;cases aG5;replace aE0:=eq_true aE0;replace aDz:=eq_true aDz;go_wp2;go_roundg k1;(case measure=>have:=HK1.out;omega);case rel=>exact⟨(wrap64 (b8+1)),zz5,H',⟨aFc⟩,by repeat(first|exact aB8.refl _|apply aB8.step)⟩
def aCc.l0:Nat->List Int->Int->Int->List (S73)->Int->Int->Option (List Int)
 | 0,_,_,_,_,_,_=>none
 | k+1,x1,x2,x3,eJ,k5,fQ=>if fQ<k5 then(if 0<=fQ then(if fQ<(eJ.length:Int) then(if x2=((aA2 eJ fQ).f0) then(if 0<=x2 then(if x2<(x1.length:Int) then((some (x1.set (x2:Int).toNat (wrap64 ((rd x1 x2)-x3)):List Int)).bind λi8=>(if 0<=((aA2 eJ fQ).f1) then(if((aA2 eJ fQ).f1)<(x1.length:Int) then(aCc.l0 k (i8.set (((aA2 eJ fQ).f1):Int).toNat (wrap64 ((rd i8 ((aA2 eJ fQ).f1))+x3))) x2 x3 eJ k5 (wrap64 (fQ+1))) else(none)) else(none))) else(none)) else(none)) else(if x2=((aA2 eJ fQ).f1) then(if 0<=x2 then(if x2<(x1.length:Int) then((some (x1.set (x2:Int).toNat (wrap64 ((rd x1 x2)-x3)):List Int)).bind λcX=>(if 0<=((aA2 eJ fQ).f0) then(if((aA2 eJ fQ).f0)<(x1.length:Int) then(aCc.l0 k (cX.set (((aA2 eJ fQ).f0):Int).toNat (wrap64 ((rd cX ((aA2 eJ fQ).f0))+x3))) x2 x3 eJ k5 (wrap64 (fQ+1))) else(none)) else(none))) else(none)) else(none)) else(aCc.l0 k x1 x2 x3 eJ k5 (wrap64 (fQ+1))))) else(none)) else(none)) else(some x1)
def aCc.f (k:Nat) (aE:Int) (aC:List (S73)) (l1:List Int) (a2:Int) (a3:Int):Option (List Int):=aCc.l0 k l1 a2 a3 aC (aC.length:Int) 0
theorem aCc.aBa:∀ k,(∀ y0 y1 y2 y3 y4 y5,LeO (aCc.l0 k y0 y1 y2 y3 y4 y5) (aCc.l0 (k+1) y0 y1 y2 y3 y4 y5))
 | 0=>λ_ _ _ _ _ _ r h=>by simp[aCc.l0]at h
 | k+1=>by
  have ih0:=aCc.aBa k
  ·intro y0 y1 y2 y3 y4 y5
   unfold aCc.l0
   exact zm0
theorem aCc.mono:∀ a0 a1 a2 a3 a4 k,LeO (aCc.f k a0 a1 a2 a3 a4) (aCc.f (k+1) a0 a1 a2 a3 a4):=by
 intro a0 a1 a2 a3 a4 k;have ih0:=aCc.aBa k;unfold aCc.f;exact zm0
theorem aCc.calls (k:Nat) (aE:Int) (aQ:Option Addr) (aG:Nat) (aC:List (S73)) (P1_:Nat->Prop) (aI8:Value) (l1:List Int) (a2:Int) (a3:Int) (r:List Int) (w0 w:World) (hB:Below w0.heap.size w0 w) (hr0_1:∀ W_,Kept w W_ (λk_=>P1_ k_)->Kd.C k73 W_ aQ aC.length aC) (hc0_1:aC.length<=aG) (ho1:Kd.R (Kd.int .i64) 3 w w0.heap.size P1_ aI8 l1) (h:aCc.f k aE aC l1 a2 a3=some r) :
  Calls Try.prog 105 #[.agg #[.int .i64 aE,.slice aQ aC.length aG],aI8,.int .i64 a2,.int .i64 a3] w λe w'=>e = .returned (.tuple #[])/\Kd.R (Kd.int .i64) 3 w' w0.heap.size (λk_=>(P1_ k_∨w.heap.size<=k_)) aI8 r/\Below w0.heap.size w0 w'/\Kept w w' (λk_=>P1_ k_):=by
 have aIh:=Try.underlying25;have aUl:=Try.underlying73;have b7:=zK_ hr0_1;have bY:=zK_ hc0_1;clear hr0_1 hc0_1;have HO1:=zK_ (show Kd.R (Kd.int .i64) 3 w w0.heap.size (λk_=>(P1_ k_∨w.heap.size<=k_)) aI8 l1 from Kd.aBh ho1 (λk_ hk=>(.inl hk)));have HK:=zK_ (Kept.refl w (λk_=>P1_ k_));have HW0:=zK_ hB.size;have HB:=zK_ hB;clear hB;have H:(aCc.l0 k l1 a2 a3 aC (aC.length:Int) 0)=some r:=h;clear h;have H':=zK_ H;clear H;go_enter Try.func105,Try.ntmps105;(go_wp2_with (first|((with_reducible refine aAw (N:=4) rfl ?_);refine aAq ?hg (N:=4) ?hd (cs:=#[.int .i64 aE,.slice aQ aC.length aG]) (t:=25) ?hr ?_;(case hd=>rfl);(case hg=>rfl);(case hr=>exact aDq);intro aD hg w5 hbox hb;have n_:=zA6 (Kd.aBp (by(with_reducible repeat(first|apply Kd.aAu|apply Kd.aAt|apply Kd.aB5));exact HO1.out) hb) (Kept.below (S:=(λk_=>P1_ k_)) (by repeat(first|(with_reducible first|exact HK.out|apply Kept.alloc|apply Kept.drewN|apply Kept.drew)|exact HK.out)) hb) (aA3 zz2 hb) hbox (by rw[hg];exact(by first|exact HK.out.1|exact(show Kept w _ (λk_=>P1_ k_) from by repeat(first|(with_reducible first|exact HK.out|apply Kept.alloc|apply Kept.drewN|apply Kept.drew)|exact HK.out)).1):w.heap.size<=aD) (aE1:w0.heap.size<=aD);clear HO1 HK HB;obtain⟨HO1,HK,HB,aA,aDt,aDe⟩:=n_;clear hb hbox hg;have jK:=aCg aA;have jJ:=aCf aA;have jI:=aA0 aA.out 0;have jH:=aA0 aA.out 1)));(go_loopg [13] k (λkq v13 w'=>∃ (fP:List Int) (bM:Int),v13 = .int .i64 bM/\aA1 (aCc.l0 kq fP a2 a3 aC (aC.length:Int) bM=some r)/\aA1 (kq<=k)/\aA1 (Kd.R (Kd.int .i64) 3 w' w0.heap.size (λk_=>(P1_ k_∨w.heap.size<=k_)) aI8 fP)/\aA1 (w'.heap[aD]? = some (.cells #[.int .i64 aE,(.slice aQ aC.length aG)] 25 (0,0)))/\aA1 (Kept w w' (λk_=>P1_ k_))/\aA1 (Below w0.heap.size w0 w')));case atStart=>exact⟨(l1),(0),zz5,H',⟨Nat.le_refl _⟩,⟨by(with_reducible repeat(first|apply Kd.aAu|apply Kd.aAt|apply Kd.aB5));exact HO1.out⟩,⟨zz0⟩,⟨by repeat(first|(with_reducible first|exact HK.out|apply Kept.alloc|apply Kept.drewN|apply Kept.drew|refine Kept.setCell ?_ (.inr aDt.out) _)|exact HK.out)⟩,⟨zz1⟩⟩
 case round =>
  clear H';(try clear c1);(try clear p2);(try clear jK);(try clear jJ);(try clear jI);(try clear jH);obtain⟨fP,bM,rfl,HA,HK1,dH,aA,HK,HB⟩:=hrel
  cases gk with
  | zero=>exact absurd HA.out (by simp[aCc.l0])
  | succ k1 =>
   have H:=HA.out;clear HA;simp only[aCc.l0]at H;by_cases c7:bM<(aC.length:Int);rotate_left
   ·rw[if_neg c7]at H;have jE:=zdN c7;clear c7;obtain rfl:=zdI H;go_wp2;(first|go_end0|((try simp only[Exit.inBlock,Exit.then]);refine bodyPost_ret (results_none rfl _ _ _) rfl ?_));exact⟨zz9,by(with_reducible repeat(first|apply Kd.aAu|apply Kd.aAt|apply Kd.aB5));exact dH.out,zz1,by repeat(first|(with_reducible first|exact HK.out|apply Kept.alloc|apply Kept.drewN|apply Kept.drew|refine Kept.setCell ?_ (.inr aDt.out) _)|exact HK.out)⟩
   rw[if_pos c7]at H;have jE:=zdY c7;clear c7;by_cases c8:0<=bM;rotate_left
   ·rw[if_neg c8]at H;exact absurd H (by simp)
   rw[if_pos c8]at H;have i3:=zdY c8;clear c8;by_cases c9:bM<(aC.length:Int);rotate_left
   ·rw[if_neg c9]at H;exact absurd H (by simp)
   rw[if_pos c9]at H;have j6:=zdY c9;clear c9;by_cases c10:a2=((aA2 aC bM).f0)
   ·rw[if_pos c10]at H;have gN:(a2==((aA2 aC bM).f0))=true:=beq_iff_eq.mpr c10;have uH:(a2 != ((aA2 aC bM).f0))=false:=bne_eq_false_iff_eq.mpr c10;clear c10;by_cases c11:0<=a2;rotate_left
    ·rw[if_neg c11]at H;exact absurd H (by simp)
    rw[if_pos c11]at H;have oU:=zdY c11;clear c11;by_cases c12:a2<(fP.length:Int);rotate_left
    ·rw[if_neg c12]at H;exact absurd H (by simp)
    rw[if_pos c12]at H;have oT:=zdY c12;clear c12;obtain⟨i8,hy_⟩:∃ y_:List Int,y_=(fP.set (a2:Int).toNat (wrap64 ((rd fP a2)-a3))):=⟨_,rfl⟩;(replace H:(if 0<=((aA2 aC bM).f1) then(if((aA2 aC bM).f1)<(fP.length:Int) then(aCc.l0 k1 (i8.set (((aA2 aC bM).f1):Int).toNat (wrap64 ((rd i8 ((aA2 aC bM).f1))+a3))) a2 a3 aC (aC.length:Int) (wrap64 (bM+1))) else(none)) else(none))=some r:=zzY);have mZ:=zK_ hy_;clear hy_;by_cases c14:0<=((aA2 aC bM).f1);rotate_left
    ·rw[if_neg c14]at H;exact absurd H (by simp)
    rw[if_pos c14]at H;have jT:=zdY c14;clear c14;by_cases c15:((aA2 aC bM).f1)<(fP.length:Int);rotate_left
    ·rw[if_neg c15]at H;exact absurd H (by simp)
    rw[if_pos c15]at H;have mW:=zdY c15;clear c15;obtain⟨oW,hy_⟩:∃ y_:List Int,y_=(i8.set (((aA2 aC bM).f1):Int).toNat (wrap64 ((rd i8 ((aA2 aC bM).f1))+a3))):=⟨_,rfl⟩;(replace H:(aCc.l0 k1 oW a2 a3 aC (aC.length:Int) (wrap64 (bM+1)))=some r:=zzY);have q6:=zK_ hy_;clear hy_;have H':=zK_ H;clear H;have aFe:0<=(bM:Int):=zdT zz4;have aFd:bM<(aC.length:Int):=zdT zz4;obtain⟨d8,aJn,cJ,cW⟩:=aDi (Kd.aJu b7.out HK.out) bM aFe aFd;cases aJn;replace aFe:=eq_true aFe;replace aFd:=eq_true aFd;(go_wp2_with (first|((with_reducible refine aAw (N:=9) rfl ?_);refine aAq ?hg (N:=9) ?hd (cs:=#[.int .i64 0,.int .i64 0]) (t:=73) ?hr ?_;(case hd=>rfl);(case hg=>rfl);(case hr=>exact aDq);intro b6 hg w17 hbox hb;have n_:=zA9 (Kd.aBp (by(with_reducible repeat(first|apply Kd.aAu|apply Kd.aAt|apply Kd.aB5));exact dH.out) hb) (aA4 (g:=aD) (o:=.cells #[.int .i64 aE,.slice (some d8) aC.length aG] 25 (0,0)) zz0 hb) (Kept.below (S:=(λk_=>P1_ k_)) aZk hb) (aA3 zz1 hb) hbox (aZt:w.heap.size<=b6) (aFb:w0.heap.size<=b6) (aW1:aD≠b6) (aW0:b6≠aD);clear dH aA HK HB;obtain⟨dH,aA,HK,HB,bR,aK6,aK8,cU,dG⟩:=n_;clear hb hbox hg;have qB:=dG.out;have qA:=cU.out;have jS:=aCg bR;have jR:=aCf bR;have jQ:=aA0 bR.out 0;have jP:=aA0 bR.out 1)|((with_reducible refine aEa (t:=73) (p:=9) rfl ?_);refine aE5 (t:=73) (p:=9) (v:=?vo_w20) (w1:=((w17.setCell ⟨b6,0,none⟩ (.int .i64 ((aA2 aC bM).f0))).setCell ⟨b6,1,none⟩ (.int .i64 ((aA2 aC bM).f1)))) ?hg ?ho ?hn ?hr ?_;(case ho=>rfl);(case hg=>rfl);(case hn=>rfl);(case hr=>exact aDq);intro w20 hw;have n0_:aA1 (Kd.R (Kd.int .i64) 3 w20 w0.heap.size (λk_=>(P1_ k_∨w.heap.size<=k_)) aI8 fP):=⟨bCw⟩;have n1_:aA1 (w20.heap[aD]? = some (.cells #[.int .i64 aE,.slice (some d8) aC.length aG] 25 (0,0))):=⟨(by rw[hw];exact aW3)⟩;have n2_:aA1 (w20.heap[b6]? = some (.cells #[.int .i64 ((aA2 aC bM).f0),.int .i64 ((aA2 aC bM).f1)] 73 (0,0))):=⟨bCz⟩;have n3_:aA1 (Kept w w20 (λk_=>P1_ k_)):=⟨(by rw[hw];exact aVz)⟩;have n4_:aA1 (Below w0.heap.size w0 w20):=⟨(by rw[hw];exact aT0)⟩;clear hw;clear dH;clear aA;clear bR;clear HK;clear HB;have dH:=n0_;have aA:=n1_;have bR:=n2_;have HK:=n3_;have HB:=n4_;clear n0_ n1_ n2_ n3_ n4_;have f5:=aCg bR;have f4:=aCf bR;have fY:=aA0 bR.out 0;have fX:=aA0 bR.out 1;obtain⟨bNs,bIn,LW⟩:=Kd.aBe dH.out;subst LW;have aJi:0<=(a2:Int):=zdT zz4;have aJg:a2<(fP.length:Int):=zdT zz4;obtain⟨i5,aSm,dQ⟩:=Kd.aCz (Kd.aAc dH.out).2.2 a2 aJi aJg;cases aSm;replace aJi:=eq_true aJi;replace aJg:=eq_true aJg;have p13:0<=(a2:Int):=zdT zz4;have q13:(a2:Int)<((fP.length:Int):Int):=zdT zz4;obtain⟨aXm,aEq,qL,DI,bL1,bN9,bIy⟩:=Kd.aHs dH.out (by omega);(first|cases qL|(injection qL with ea_ en_ ec_;(first|subst ea_|(injection ea_ with ea_;subst ea_));subst ec_;clear en_));have EV:=zK_ DI;have P3:=zK_ bIy;clear DI bL1 bIy;have bIr:=zK_ (show (P1_ aXm∨w.heap.size<=aXm) from(dH.out.1 _ rfl));(first|simp only[add_plain]at dQ|skip);obtain⟨HU,K6⟩:=Kd.aEb 0 dH.out (a2:Int) p13 q13;replace p13:=eq_true p13;replace q13:=eq_true q13;obtain⟨bKg,bK8⟩:=Kd.aEb 0 dH.out (a2:Int) (zdT zz4) (zdT zz4);have yW:=Kd.aIb dH.out (a2:Int) (wrap64 ((rd fP a2)-a3)))|((with_reducible refine aEa (t:=3) (p:=28) rfl ?_);refine aE5 (t:=3) (p:=28) (v:=?vo_w24) (w1:=(w20.setCell ⟨aXm,(a2:Int).toNat,none⟩ (.int .i64 (wrap64 ((rd fP a2)-a3))))) ?hg ?ho ?hn ?hr ?_;(case ho=>rfl);(case hg=>rfl);(case hn=>rfl);(case hr=>exact aDq);intro w24 hw;have hg:w20.grownBy w24 (some aXm):=(by rw[hw];exact yW.2);have hp_:Kd.R (Kd.int .i64) 3 w24 w0.heap.size (λk_=>(P1_ k_∨w.heap.size<=k_)) (.slice (some ⟨aXm,0,none⟩) fP.length bIn) i8:=(by rw[hw,mZ.out];exact yW.1);clear yW;have n_:=zA5 hp_ (aAx (g:=aD) (o:=.cells #[.int .i64 aE,.slice (some d8) aC.length aG] 25 (0,0)) zz0 hg (Kd.aEd dH.out aA.out (by decide))) (aAx (g:=b6) (o:=.cells #[.int .i64 ((aA2 aC bM).f0),.int .i64 ((aA2 aC bM).f1)] 73 (0,0)) aW4 hg (Kd.aEd dH.out bR.out (by decide))) (by rw[hw];exact aAi (HB.out) EV.out:Below w0.heap.size w0 w24) (Kept.aGi (S:=(λk_=>P1_ k_)) hg aVz (λk_ e_=>(dH.out.1 k_ e_)));clear dH aA bR HB HK;obtain⟨dH,aA,bR,HB,HK⟩:=n_;clear hg hw hp_;have f3:=aCg bR;have fZ:=aCf bR;have fW:=aA0 bR.out 0;have fV:=aA0 bR.out 1;have aPn:0<=(((aA2 aC bM).f1):Int):=zdT zz4;have aPm:((aA2 aC bM).f1)<(i8.length:Int):=(by have h_:(((aA2 aC bM).f1):Int)<((fP.length:Int):Int):=zdT zz4;first|(have e_:=(Kd.aAc dH.out).1;omega)|simpa only [mZ.out,List.length_set]using h_);have bJy:((((aA2 aC bM).f1):Int)<((fP.length:Int):Int))=True:=eq_true (zdT zz4);obtain⟨oJ,bB0,dW⟩:=Kd.aCz (Kd.aAc dH.out).2.2 ((aA2 aC bM).f1) aPn aPm;obtain rfl:(⟨aXm,0,none⟩:Addr)=oJ:=(by injection bB0);(first|simp only[add_plain]at dW|simp only[aRl]at dW|simp only[Addr.add,Nat.zero_add]at dW|skip);replace aPn:=eq_true aPn;replace aPm:=eq_true aPm;have p16:0<=(((aA2 aC bM).f1):Int):=zdT zz4;have q16:(((aA2 aC bM).f1):Int)<((fP.length:Int):Int):=zdT zz4;obtain⟨G9,K5⟩:=Kd.aEb 0 dH.out (((aA2 aC bM).f1):Int) p16 q16;replace p16:=eq_true p16;replace q16:=eq_true q16;obtain⟨bKf,bK7⟩:=Kd.aEb 0 dH.out (((aA2 aC bM).f1):Int) (zdT zz4) (zdT zz4);have yV:=Kd.aIb dH.out (((aA2 aC bM).f1):Int) (wrap64 ((rd i8 ((aA2 aC bM).f1))+a3)))|((with_reducible refine aEa (t:=3) (p:=36) rfl ?_);refine aE5 (t:=3) (p:=36) (v:=?vo_w27) (w1:=(w24.setCell ⟨aXm,(((aA2 aC bM).f1):Int).toNat,none⟩ (.int .i64 (wrap64 ((rd i8 ((aA2 aC bM).f1))+a3))))) ?hg ?ho ?hn ?hr ?_;(case ho=>rfl);(case hg=>rfl);(case hn=>rfl);(case hr=>exact aDq);intro w27 hw;have hg:w24.grownBy w27 (some aXm):=(by rw[hw];exact yV.2);have hp_:Kd.R (Kd.int .i64) 3 w27 w0.heap.size (λk_=>(P1_ k_∨w.heap.size<=k_)) (.slice (some ⟨aXm,0,none⟩) fP.length bIn) oW:=(by rw[hw,q6.out];exact yV.1);clear yV;have n_:=zA5 hp_ (aAx (g:=aD) (o:=.cells #[.int .i64 aE,.slice (some d8) aC.length aG] 25 (0,0)) zz0 hg (Kd.aEd dH.out aA.out (by decide))) (aAx (g:=b6) (o:=.cells #[.int .i64 ((aA2 aC bM).f0),.int .i64 ((aA2 aC bM).f1)] 73 (0,0)) aW4 hg (Kd.aEd dH.out bR.out (by decide))) (by rw[hw];exact aAi (HB.out) EV.out:Below w0.heap.size w0 w27) (Kept.aGi (S:=(λk_=>P1_ k_)) hg aVz (λk_ e_=>(dH.out.1 k_ e_)));clear dH aA bR HB HK;obtain⟨dH,aA,bR,HB,HK⟩:=n_;clear hg hw hp_)));go_roundg k1;(case measure=>have:=HK1.out;omega);case rel=>exact⟨(oW),(wrap64 (bM+1)),zz5,H',⟨aFc⟩,⟨by(with_reducible repeat(first|apply Kd.aAu|apply Kd.aAt|apply Kd.aB5));exact dH.out⟩,⟨zz0⟩,⟨aVz⟩,⟨aT0⟩⟩
   rw[if_neg c10]at H;have gN:(a2==((aA2 aC bM).f0))=false:=beq_eq_false_iff_ne.mpr c10;have uH:(a2 != ((aA2 aC bM).f0))=true:=bne_iff_ne.mpr c10;by_cases c28:a2=((aA2 aC bM).f1);rotate_left
   ·rw[if_neg c28]at H;have sR:(a2==((aA2 aC bM).f1))=false:=beq_eq_false_iff_ne.mpr c28;have uE:(a2 != ((aA2 aC bM).f1))=true:=bne_iff_ne.mpr c28;have H':=zK_ H;clear H;have aFe:0<=(bM:Int):=zdT zz4;have aFd:bM<(aC.length:Int):=zdT zz4;obtain⟨d8,aJn,cJ,cW⟩:=aDi (Kd.aJu b7.out HK.out) bM aFe aFd;cases aJn;replace aFe:=eq_true aFe;replace aFd:=eq_true aFd;(go_wp2_with (first|((with_reducible refine aAw (N:=9) rfl ?_);refine aAq ?hg (N:=9) ?hd (cs:=#[.int .i64 0,.int .i64 0]) (t:=73) ?hr ?_;(case hd=>rfl);(case hg=>rfl);(case hr=>exact aDq);intro b6 hg w46 hbox hb;have n_:=zA9 (Kd.aBp (by(with_reducible repeat(first|apply Kd.aAu|apply Kd.aAt|apply Kd.aB5));exact dH.out) hb) (aA4 (g:=aD) (o:=.cells #[.int .i64 aE,.slice (some d8) aC.length aG] 25 (0,0)) zz0 hb) (Kept.below (S:=(λk_=>P1_ k_)) aZk hb) (aA3 zz1 hb) hbox (aZt:w.heap.size<=b6) (aFb:w0.heap.size<=b6) (aW1:aD≠b6) (aW0:b6≠aD);clear dH aA HK HB;obtain⟨dH,aA,HK,HB,bR,aK6,aK8,cU,dG⟩:=n_;clear hb hbox hg;have AA:=dG.out;have zK:=cU.out;have lQ:=aCg bR;have lP:=aCf bR;have lI:=aA0 bR.out 0;have lH:=aA0 bR.out 1)));go_roundg k1;(case measure=>have:=HK1.out;omega);case rel=>exact⟨(fP),(wrap64 (bM+1)),zz5,H',⟨aFc⟩,⟨by(with_reducible repeat(first|apply Kd.aAu|apply Kd.aAt|apply Kd.aB5));exact Kd.aBh (Kd.aDx (p:=⟨b6,1,none⟩) (Kd.aDx (p:=⟨b6,0,none⟩) (Kd.aDp dH.out bR.out (by decide)) (λ_ hk=>hk.2) (.int .i64 ((aA2 aC bM).f0))) (λ_ hk=>hk.2) (.int .i64 ((aA2 aC bM).f1))) (λ_ hk=>hk.1)⟩,⟨aW3⟩,⟨aVz⟩,⟨aT0⟩⟩
   rw[if_pos c28]at H;have sR:(a2==((aA2 aC bM).f1))=true:=beq_iff_eq.mpr c28;have uE:(a2 != ((aA2 aC bM).f1))=false:=bne_eq_false_iff_eq.mpr c28;clear c28;by_cases c29:0<=a2;rotate_left
   ·rw[if_neg c29]at H;exact absurd H (by simp)
   rw[if_pos c29]at H;have xM:=zdY c29;clear c29;by_cases c30:a2<(fP.length:Int);rotate_left
   ·rw[if_neg c30]at H;exact absurd H (by simp)
   rw[if_pos c30]at H;have nD:=zdY c30;clear c30;obtain⟨cX,hy_⟩:∃ y_:List Int,y_=(fP.set (a2:Int).toNat (wrap64 ((rd fP a2)-a3))):=⟨_,rfl⟩;(replace H:(if 0<=((aA2 aC bM).f0) then(if((aA2 aC bM).f0)<(fP.length:Int) then(aCc.l0 k1 (cX.set (((aA2 aC bM).f0):Int).toNat (wrap64 ((rd cX ((aA2 aC bM).f0))+a3))) a2 a3 aC (aC.length:Int) (wrap64 (bM+1))) else(none)) else(none))=some r:=zzY);have jV:=zK_ hy_;clear hy_;by_cases c32:0<=((aA2 aC bM).f0);rotate_left
   ·rw[if_neg c32]at H;exact absurd H (by simp)
   rw[if_pos c32]at H;have sQ:=zdY c32;clear c32;by_cases c33:((aA2 aC bM).f0)<(fP.length:Int);rotate_left
   ·rw[if_neg c33]at H;exact absurd H (by simp)
   rw[if_pos c33]at H;have PB:=zdY c33;clear c33;obtain⟨xX,hy_⟩:∃ y_:List Int,y_=(cX.set (((aA2 aC bM).f0):Int).toNat (wrap64 ((rd cX ((aA2 aC bM).f0))+a3))):=⟨_,rfl⟩;(replace H:(aCc.l0 k1 xX a2 a3 aC (aC.length:Int) (wrap64 (bM+1)))=some r:=zzY);have EI:=zK_ hy_;clear hy_;have H':=zK_ H;clear H;have aFe:0<=(bM:Int):=zdT zz4;have aFd:bM<(aC.length:Int):=zdT zz4;obtain⟨d8,aJn,cJ,cW⟩:=aDi (Kd.aJu b7.out HK.out) bM aFe aFd;cases aJn;replace aFe:=eq_true aFe;replace aFd:=eq_true aFd;(go_wp2_with (first|((with_reducible refine aAw (N:=9) rfl ?_);refine aAq ?hg (N:=9) ?hd (cs:=#[.int .i64 0,.int .i64 0]) (t:=73) ?hr ?_;(case hd=>rfl);(case hg=>rfl);(case hr=>exact aDq);intro b6 hg w35 hbox hb;have n_:=zA9 (Kd.aBp (by(with_reducible repeat(first|apply Kd.aAu|apply Kd.aAt|apply Kd.aB5));exact dH.out) hb) (aA4 (g:=aD) (o:=.cells #[.int .i64 aE,.slice (some d8) aC.length aG] 25 (0,0)) zz0 hb) (Kept.below (S:=(λk_=>P1_ k_)) aZk hb) (aA3 zz1 hb) hbox (aZt:w.heap.size<=b6) (aFb:w0.heap.size<=b6) (aW1:aD≠b6) (aW0:b6≠aD);clear dH aA HK HB;obtain⟨dH,aA,HK,HB,bR,aK6,aK8,cU,dG⟩:=n_;clear hb hbox hg;have xF:=dG.out;have xB:=cU.out;have nX:=aCg bR;have nW:=aCf bR;have nN:=aA0 bR.out 0;have nM:=aA0 bR.out 1)|((with_reducible refine aEa (t:=73) (p:=9) rfl ?_);refine aE5 (t:=73) (p:=9) (v:=?vo_w38) (w1:=((w35.setCell ⟨b6,0,none⟩ (.int .i64 ((aA2 aC bM).f0))).setCell ⟨b6,1,none⟩ (.int .i64 ((aA2 aC bM).f1)))) ?hg ?ho ?hn ?hr ?_;(case ho=>rfl);(case hg=>rfl);(case hn=>rfl);(case hr=>exact aDq);intro w38 hw;have n0_:aA1 (Kd.R (Kd.int .i64) 3 w38 w0.heap.size (λk_=>(P1_ k_∨w.heap.size<=k_)) aI8 fP):=⟨bCw⟩;have n1_:aA1 (w38.heap[aD]? = some (.cells #[.int .i64 aE,.slice (some d8) aC.length aG] 25 (0,0))):=⟨(by rw[hw];exact aW3)⟩;have n2_:aA1 (w38.heap[b6]? = some (.cells #[.int .i64 ((aA2 aC bM).f0),.int .i64 ((aA2 aC bM).f1)] 73 (0,0))):=⟨bCz⟩;have n3_:aA1 (Kept w w38 (λk_=>P1_ k_)):=⟨(by rw[hw];exact aVz)⟩;have n4_:aA1 (Below w0.heap.size w0 w38):=⟨(by rw[hw];exact aT0)⟩;clear hw;clear dH;clear aA;clear bR;clear HK;clear HB;have dH:=n0_;have aA:=n1_;have bR:=n2_;have HK:=n3_;have HB:=n4_;clear n0_ n1_ n2_ n3_ n4_;have lS:=aCg bR;have lR:=aCf bR;have lK:=aA0 bR.out 0;have lJ:=aA0 bR.out 1;obtain⟨aY5,aPf,t7⟩:=Kd.aBe dH.out;subst t7;have aJh:0<=(a2:Int):=zdT zz4;have aJf:a2<(fP.length:Int):=zdT zz4;obtain⟨gO,e108,dP⟩:=Kd.aCz (Kd.aAc dH.out).2.2 a2 aJh aJf;cases e108;replace aJh:=eq_true aJh;replace aJf:=eq_true aJf;have p31:0<=(a2:Int):=zdT zz4;have q31:(a2:Int)<((fP.length:Int):Int):=zdT zz4;obtain⟨aXl,bN2,DL,DE,bKx,bN5,bIu⟩:=Kd.aHs dH.out (by omega);(first|cases DL|(injection DL with ea_ en_ ec_;(first|subst ea_|(injection ea_ with ea_;subst ea_));subst ec_;clear en_));have EU:=zK_ DE;have PZ:=zK_ bIu;clear DE bKx bIu;have bIq:=zK_ (show (P1_ aXl∨w.heap.size<=aXl) from(dH.out.1 _ rfl));(first|simp only[add_plain]at dP|skip);obtain⟨G6,KZ⟩:=Kd.aEb 0 dH.out (a2:Int) p31 q31;replace p31:=eq_true p31;replace q31:=eq_true q31;obtain⟨bKc,bK4⟩:=Kd.aEb 0 dH.out (a2:Int) (zdT zz4) (zdT zz4);have yS:=Kd.aIb dH.out (a2:Int) (wrap64 ((rd fP a2)-a3)))|((with_reducible refine aEa (t:=3) (p:=47) rfl ?_);refine aE5 (t:=3) (p:=47) (v:=?vo_w42) (w1:=(w38.setCell ⟨aXl,(a2:Int).toNat,none⟩ (.int .i64 (wrap64 ((rd fP a2)-a3))))) ?hg ?ho ?hn ?hr ?_;(case ho=>rfl);(case hg=>rfl);(case hn=>rfl);(case hr=>exact aDq);intro w42 hw;have hg:w38.grownBy w42 (some aXl):=(by rw[hw];exact yS.2);have hp_:Kd.R (Kd.int .i64) 3 w42 w0.heap.size (λk_=>(P1_ k_∨w.heap.size<=k_)) (.slice (some ⟨aXl,0,none⟩) fP.length aPf) cX:=(by rw[hw,jV.out];exact yS.1);clear yS;have n_:=zA5 hp_ (aAx (g:=aD) (o:=.cells #[.int .i64 aE,.slice (some d8) aC.length aG] 25 (0,0)) zz0 hg (Kd.aEd dH.out aA.out (by decide))) (aAx (g:=b6) (o:=.cells #[.int .i64 ((aA2 aC bM).f0),.int .i64 ((aA2 aC bM).f1)] 73 (0,0)) aW4 hg (Kd.aEd dH.out bR.out (by decide))) (by rw[hw];exact aAi (HB.out) EU.out:Below w0.heap.size w0 w42) (Kept.aGi (S:=(λk_=>P1_ k_)) hg aVz (λk_ e_=>(dH.out.1 k_ e_)));clear dH aA bR HB HK;obtain⟨dH,aA,bR,HB,HK⟩:=n_;clear hg hw hp_;have mR:=aCg bR;have mQ:=aCf bR;have mN:=aA0 bR.out 0;have mM:=aA0 bR.out 1;have aWy:0<=(((aA2 aC bM).f0):Int):=zdT zz4;have aWv:((aA2 aC bM).f0)<(cX.length:Int):=(by have h_:(((aA2 aC bM).f0):Int)<((fP.length:Int):Int):=zdT zz4;first|(have e_:=(Kd.aAc dH.out).1;omega)|simpa only [jV.out,List.length_set]using h_);have bJx:((((aA2 aC bM).f0):Int)<((fP.length:Int):Int))=True:=eq_true (zdT zz4);obtain⟨nE,bH3,lG⟩:=Kd.aCz (Kd.aAc dH.out).2.2 ((aA2 aC bM).f0) aWy aWv;obtain rfl:(⟨aXl,0,none⟩:Addr)=nE:=(by injection bH3);(first|simp only[add_plain]at lG|simp only[aRl]at lG|simp only[Addr.add,Nat.zero_add]at lG|skip);replace aWy:=eq_true aWy;replace aWv:=eq_true aWv;have p34:0<=(((aA2 aC bM).f0):Int):=zdT zz4;have q34:(((aA2 aC bM).f0):Int)<((fP.length:Int):Int):=zdT zz4;obtain⟨G5,KY⟩:=Kd.aEb 0 dH.out (((aA2 aC bM).f0):Int) p34 q34;replace p34:=eq_true p34;replace q34:=eq_true q34;obtain⟨bKb,bK3⟩:=Kd.aEb 0 dH.out (((aA2 aC bM).f0):Int) (zdT zz4) (zdT zz4);have yR:=Kd.aIb dH.out (((aA2 aC bM).f0):Int) (wrap64 ((rd cX ((aA2 aC bM).f0))+a3)))|((with_reducible refine aEa (t:=3) (p:=55) rfl ?_);refine aE5 (t:=3) (p:=55) (v:=?vo_w45) (w1:=(w42.setCell ⟨aXl,(((aA2 aC bM).f0):Int).toNat,none⟩ (.int .i64 (wrap64 ((rd cX ((aA2 aC bM).f0))+a3))))) ?hg ?ho ?hn ?hr ?_;(case ho=>rfl);(case hg=>rfl);(case hn=>rfl);(case hr=>exact aDq);intro w45 hw;have hg:w42.grownBy w45 (some aXl):=(by rw[hw];exact yR.2);have hp_:Kd.R (Kd.int .i64) 3 w45 w0.heap.size (λk_=>(P1_ k_∨w.heap.size<=k_)) (.slice (some ⟨aXl,0,none⟩) fP.length aPf) xX:=(by rw[hw,EI.out];exact yR.1);clear yR;have n_:=zA5 hp_ (aAx (g:=aD) (o:=.cells #[.int .i64 aE,.slice (some d8) aC.length aG] 25 (0,0)) zz0 hg (Kd.aEd dH.out aA.out (by decide))) (aAx (g:=b6) (o:=.cells #[.int .i64 ((aA2 aC bM).f0),.int .i64 ((aA2 aC bM).f1)] 73 (0,0)) aW4 hg (Kd.aEd dH.out bR.out (by decide))) (by rw[hw];exact aAi (HB.out) EU.out:Below w0.heap.size w0 w45) (Kept.aGi (S:=(λk_=>P1_ k_)) hg aVz (λk_ e_=>(dH.out.1 k_ e_)));clear dH aA bR HB HK;obtain⟨dH,aA,bR,HB,HK⟩:=n_;clear hg hw hp_)));go_roundg k1;(case measure=>have:=HK1.out;omega);case rel=>exact⟨(xX),(wrap64 (bM+1)),zz5,H',⟨aFc⟩,⟨by(with_reducible repeat(first|apply Kd.aAu|apply Kd.aAt|apply Kd.aB5));exact dH.out⟩,⟨zz0⟩,⟨aVz⟩,⟨aT0⟩⟩
def aB1.l0:Nat->List Int->Int->Int->Int->Option (Int)
 | 0,_,_,_,_=>none
 | k+1,x0,x1,x7,x8=>if x8<x7 then(if 0<=x8 then(if x8<(x0.length:Int) then(if x1=(rd x0 x8) then(some x8) else(aB1.l0 k x0 x1 x7 (wrap64 (x8+1)))) else(none)) else(none)) else(some (-1))
def aB1.f (k:Nat) (l0:List Int) (a1:Int):Option (Int):=aB1.l0 k l0 a1 (l0.length:Int) 0
theorem aB1.aBa:∀ k,(∀ y0 y1 y2 y3,LeO (aB1.l0 k y0 y1 y2 y3) (aB1.l0 (k+1) y0 y1 y2 y3))
 | 0=>λ_ _ _ _ r h=>by simp[aB1.l0]at h
 | k+1=>by
  have ih0:=aB1.aBa k
  ·intro y0 y1 y2 y3
   unfold aB1.l0
   exact zm0
theorem aB1.mono:∀ a0 a1 k,LeO (aB1.f k a0 a1) (aB1.f (k+1) a0 a1):=by
 intro a0 a1 k;have ih0:=aB1.aBa k;unfold aB1.f;exact zm0
theorem aB1.calls (k:Nat) (A0:Option Addr) (c0:Nat) (l0:List Int) (a1:Int) (r:Int) (w:World) (hr0:Kd.C (Kd.int .i64) w A0 l0.length l0) (hc0:l0.length<=c0) (h:aB1.f k l0 a1=some r) :
  Calls Try.prog 119 #[.slice A0 l0.length c0,.int .i64 a1] w λe w'=>e = .returned (.int .i64 r)/\aB8 w w':=by
 have HR0:=zK_ hr0;have HC0:=zK_ hc0;clear hr0 hc0;have H:(aB1.l0 k l0 a1 (l0.length:Int) 0)=some r:=h;clear h;have H':=zK_ H;clear H;go_enter Try.func119,Try.ntmps119;go_wp2;(go_loopg [8] k (λkq v8 w'=>∃ (cP:Int),v8 = .int .i64 cP/\aA1 (aB1.l0 kq l0 a1 (l0.length:Int) cP=some r)/\aA1 (kq<=k)/\aB8 w w'));case atStart=>exact⟨(0),zz5,H',⟨Nat.le_refl _⟩,by repeat(first|exact aB8.refl _|apply aB8.step)⟩
 case round =>
  clear H';(try clear c1);(try clear p2);obtain⟨cP,rfl,HA,HK1,⟨m1,rfl⟩⟩:=hrel
  cases gk with
  | zero=>exact absurd HA.out (by simp[aB1.l0])
  | succ k1 =>
   have H:=HA.out;clear HA;simp only[aB1.l0]at H;by_cases c3:cP<(l0.length:Int);rotate_left
   ·rw[if_neg c3]at H;have i4:=zdN c3;clear c3;obtain rfl:=zdI H;go_wp2;go_ret;exact⟨zz5,by repeat(first|exact aB8.refl _|apply aB8.step)⟩
   rw[if_pos c3]at H;have i4:=zdY c3;clear c3;by_cases c4:0<=cP;rotate_left
   ·rw[if_neg c4]at H;exact absurd H (by simp)
   rw[if_pos c4]at H;have iI:=zdY c4;clear c4;by_cases c5:cP<(l0.length:Int);rotate_left
   ·rw[if_neg c5]at H;exact absurd H (by simp)
   rw[if_pos c5]at H;have fL:=zdY c5;clear c5;by_cases c6:a1=(rd l0 cP)
   ·rw[if_pos c6]at H;have iT:(a1==(rd l0 cP))=true:=beq_iff_eq.mpr c6;have nI:(a1 != (rd l0 cP))=false:=bne_eq_false_iff_eq.mpr c6;clear c6;obtain rfl:=zdI H;have aE0:0<=(cP:Int):=zdT zz4;have aDz:cP<(l0.length:Int):=zdT zz4;obtain⟨fC,aG5,bU⟩:=Kd.aCz HR0.out cP aE0 aDz;cases aG5;replace aE0:=eq_true aE0;replace aDz:=eq_true aDz;go_wp2;go_ret;exact⟨zz5,by repeat(first|exact aB8.refl _|apply aB8.step)⟩
   rw[if_neg c6]at H;have iT:(a1==(rd l0 cP))=false:=beq_eq_false_iff_ne.mpr c6;have nI:(a1 != (rd l0 cP))=true:=bne_iff_ne.mpr c6;have H':=zK_ H;clear H;have aE0:0<=(cP:Int):=zdT zz4;have aDz:cP<(l0.length:Int):=zdT zz4;obtain⟨fC,aG5,bU⟩:=Kd.aCz HR0.out cP aE0 aDz;cases aG5;replace aE0:=eq_true aE0;replace aDz:=eq_true aDz;go_wp2;go_roundg k1;(case measure=>have:=HK1.out;omega);case rel=>exact⟨(wrap64 (cP+1)),zz5,H',⟨aFc⟩,by repeat(first|exact aB8.refl _|apply aB8.step)⟩
def aBb.f (k:Nat) (l0:List Int) (a1:Int):Option (Bool):=(aB1.f k l0 a1).bind λbP=>(some (decide (bP≥0)))
theorem aBb.mono:∀ a0 a1 k,LeO (aBb.f k a0 a1) (aBb.f (k+1) a0 a1):=by
 intro a0 a1 k;unfold aBb.f;repeat' first|(with_reducible apply aB1.mono)|(with_reducible exact LeO.refl _)|(with_reducible exact LeO.none _)|(with_reducible refine LeO.ite ?_ ?_)|(with_reducible refine LeO.bind ?_ (λ_=>?_))|apply aB1.mono|exact LeO.none _|refine LeO.ite ?_ ?_|refine LeO.bind ?_ (λ_=>?_)
theorem aBb.calls (k:Nat) (A0:Option Addr) (c0:Nat) (l0:List Int) (a1:Int) (r:Bool) (w:World) (hr0:Kd.C (Kd.int .i64) w A0 l0.length l0) (hc0:l0.length<=c0) (h:aBb.f k l0 a1=some r) :
  Calls Try.prog 107 #[.slice A0 l0.length c0,.int .i64 a1] w λe w'=>e = .returned (.bool r)/\aB8 w w':=by
 have HR0:=zK_ hr0;have HC0:=zK_ hc0;clear hr0 hc0;have H:((aB1.f k l0 a1).bind λbP=>(some (decide (bP≥0))))=some r:=h;clear h;obtain⟨bP,A30,H⟩:=zO_ H;(try dsimp only at H);have A3:=zK_ A30;clear A30;obtain rfl:=zdI H;go_enter Try.func107,Try.ntmps107;(go_wp2_with (first|((with_reducible refine aAa (f:=119) rfl ?_);refine aBg (some 7) rfl rfl Try.func119 (by kernel_rfl) rfl #[.slice A0 l0.length c0,.int .i64 a1] rfl zz3 ?_;(with_reducible refine(aB1.calls k _ _ l0 a1 bP _ ?side1 ?side2 A3.out).mono ?_);(case side1=>exact aY9);(case side2=>exact HC0.out);rintro e w' ⟨rfl,⟨nd,rfl⟩⟩;refine⟨_,rfl,?_⟩)));go_ret;exact⟨zz5,by repeat(first|exact aB8.refl _|apply aB8.step)⟩
mutual
def aAb.j0:Nat->Int->Int->Bool->Int->List (S73)->Option (Int)
 | 0,_,_,_,_,_=>none
 | k+1,x1,x2,tE,aU,aM=>if tE=true then(some 0) else(aAb.l0 k x1 x2 0 aM (aM.length:Int) 0)
def aAb.l0:Nat->Int->Int->Int->List (S73)->Int->Int->Option (Int)
 | 0,_,_,_,_,_,_=>none
 | k+1,x1,x2,x7,rD,EW,wZ=>if wZ<EW then(if 0<=wZ then(if wZ<(rD.length:Int) then(if((aA2 rD wZ).f0)=(mn x1 x2) then(if((aA2 rD wZ).f1)=(mx x1 x2) then(aAb.l0 k x1 x2 (wrap64 (x7+1)) rD EW (wrap64 (wZ+1))) else(aAb.l0 k x1 x2 x7 rD EW (wrap64 (wZ+1)))) else(aAb.l0 k x1 x2 x7 rD EW (wrap64 (wZ+1)))) else(none)) else(none)) else(some x7)
end
def aAb.f (k:Nat) (aE:Int) (aC:List (S73)) (a1:Int) (a2:Int):Option (Int):=if(mn a1 a2)<0 then(aAb.j0 k a1 a2 true aE aC) else(if(mx a1 a2)≥aE then(aAb.j0 k a1 a2 true aE aC) else(aAb.j0 k a1 a2 (a1==a2) aE aC))
theorem aAb.aBa:∀ k,(∀ y0 y1 y2 y3 y4,LeO (aAb.j0 k y0 y1 y2 y3 y4) (aAb.j0 (k+1) y0 y1 y2 y3 y4))/\(∀ y0 y1 y2 y3 y4 y5,LeO (aAb.l0 k y0 y1 y2 y3 y4 y5) (aAb.l0 (k+1) y0 y1 y2 y3 y4 y5))
 | 0=>⟨λ_ _ _ _ _ r h=>by simp[aAb.j0]at h,λ_ _ _ _ _ _ r h=>by simp[aAb.l0]at h⟩
 | k+1=>by
  obtain⟨ih0,ih1⟩:=aAb.aBa k
  refine⟨?_,?_⟩
  ·intro y0 y1 y2 y3 y4
   unfold aAb.j0
   exact zm1
  ·intro y0 y1 y2 y3 y4 y5
   unfold aAb.l0
   exact zm1
theorem aAb.mono:∀ a0 a1 a2 a3 k,LeO (aAb.f k a0 a1 a2 a3) (aAb.f (k+1) a0 a1 a2 a3):=by
 intro a0 a1 a2 a3 k;obtain⟨ih0,ih1⟩:=aAb.aBa k;unfold aAb.f;exact zm1
theorem aAb.calls (k:Nat) (aE:Int) (aQ:Option Addr) (aG:Nat) (aC:List (S73)) (a1:Int) (a2:Int) (r:Int) (w:World) (hr0_1:Kd.C k73 w aQ aC.length aC) (hc0_1:aC.length<=aG) (h:aAb.f k aE aC a1 a2=some r) :
  Calls Try.prog 99 #[.agg #[.int .i64 aE,.slice aQ aC.length aG],.int .i64 a1,.int .i64 a2] w λe w'=>e = .returned (.int .i64 r)/\Below w.heap.size w w':=by
 have aIh:=Try.underlying25;have aUl:=Try.underlying73;have b7:=zK_ hr0_1;have bY:=zK_ hc0_1;clear hr0_1 hc0_1;have HB:=zK_ (Below.refl w.heap.size w);have H:(if(mn a1 a2)<0 then(aAb.j0 k a1 a2 true aE aC) else(if(mx a1 a2)≥aE then(aAb.j0 k a1 a2 true aE aC) else(aAb.j0 k a1 a2 (a1==a2) aE aC)))=some r:=h;clear h;have HC4:=zK_ H;clear H;go_enter Try.func99,Try.ntmps99;(go_upto_region 1 with (first|((with_reducible refine aAw (N:=3) rfl ?_);(try(refine aBu (by rfl) ?_;dsimp only));refine aAq ?hg (N:=3) ?hd (cs:=#[.int .i64 aE,.slice aQ aC.length aG]) (t:=25) ?hr ?_;(case hd=>rfl);(case hg=>rfl);(case hr=>exact aDq);intro aD hg w5 hbox hb;have n_:=zA4 (aA3 zz2 hb) hbox (aE1:w.heap.size<=aD) (aE1:w.heap.size<=aD);clear HB;obtain⟨HB,aA,aDt,aDe⟩:=n_;clear hb hbox hg)));(try simp only[Act.put,List.setIfInBounds_toArray,List.set_cons_zero,List.set_cons_succ]);go_cut [26] (λv26 wc=>∃ (kq:Nat) (rQ:Bool),v26 = .bool rQ/\aA1 (aAb.j0 kq a1 a2 rQ aE aC=some r)/\aA1 (kq<=k)/\aA1 (wc.heap[aD]? = some (.cells #[.int .i64 aE,(.slice aQ aC.length aG)] 25 (0,0)))/\aA1 (Below w.heap.size w wc))
 case first =>
  have H:=HC4.out;clear HC4;obtain⟨G3,yE⟩:∃ j_:Int,(mn a1 a2)=j_:=⟨_,rfl⟩;(replace H:(if(G3)<0 then(aAb.j0 k a1 a2 true aE aC) else(if(mx a1 a2)≥aE then(aAb.j0 k a1 a2 true aE aC) else(aAb.j0 k a1 a2 (a1==a2) aE aC)))=some r:=by first|(rw[yE]at H;exact H)|(simp only[yE]at H ⊢;exact H));have OP:(if a2<a1 then a2 else a1)=G3:=yE;by_cases c7:(G3)<0
  ·rw[if_pos c7]at H;have jE:=zdY c7;clear c7;(first|rw[jE]|(simp only[aF0,aK5];rw[jE])|skip);have H':=zK_ H;clear H;go_wp2;(go_meet);case rel=>exact⟨_,(true),zz5,H',⟨by first|omega|exact Nat.le_refl _⟩,⟨zz0⟩,⟨zz1⟩⟩
  rw[if_neg c7]at H;have jE:=zdN c7;clear c7;(first|rw[jE]|(simp only[aF0,aK5];rw[jE])|skip);obtain⟨rX,qC⟩:∃ j_:Int,(mx a1 a2)=j_:=⟨_,rfl⟩;(replace H:(if(rX)≥aE then(aAb.j0 k a1 a2 true aE aC) else(aAb.j0 k a1 a2 (a1==a2) aE aC))=some r:=by first|(rw[qC]at H;exact H)|(simp only[qC]at H ⊢;exact H));have AJ:(if a1<a2 then a2 else a1)=rX:=qC;by_cases c9:(rX)≥aE
  ·rw[if_pos c9]at H;have j6:decide (aE<=(rX))=true:=zdY c9;clear c9;have H':=zK_ H;clear H;have eE:=aCg aA;have eD:=aCf aA;have eB:=aA0 aA.out 0;have d9:=aA0 aA.out 1;go_wp2;(go_meet);case rel=>exact⟨_,(true),zz5,H',⟨by first|omega|exact Nat.le_refl _⟩,⟨zz0⟩,⟨zz1⟩⟩
  rw[if_neg c9]at H;have j6:decide (aE<=(rX))=false:=zdN c9;clear c9;have H':=zK_ H;clear H;have lW:=aCg aA;have lV:=aCf aA;have lO:=aA0 aA.out 0;have lN:=aA0 aA.out 1;go_wp2;(go_meet);case rel=>exact⟨_,((a1==a2)),zz5,H',⟨by first|omega|exact Nat.le_refl _⟩,⟨zz0⟩,⟨zz1⟩⟩
 case rest =>
  clear HC4;(try clear p2);(try clear c7);(try clear jE);(try clear c9);(try clear j6);(try clear eE);(try clear eD);(try clear lW);(try clear lV);(try clear eB);(try clear d9);(try clear lO);(try clear lN);obtain⟨kq,rQ,rfl,HA,HJ3,aA,HB⟩:=hcut
  cases kq with
  | zero=>exact absurd HA.out (by simp[aAb.j0])
  | succ kj3 =>
   have H:=HA.out;clear HA;simp only[aAb.j0]at H;by_cases c12:rQ=true
   ·subst c12;rw[if_pos rfl]at H;obtain rfl:=zdI H;go_wp2;go_ret;exact⟨zz9,zz1⟩
   replace c12:=zdB c12;subst c12;rw[if_neg (show ¬ (false=true) by decide)]at H;have H':=zK_ H;clear H;have pS:=aCg aA;have pR:=aCf aA;have pG:=aA0 aA.out 0;have pF:=aA0 aA.out 1;go_wp2;(go_loopg [7,30] kj3 (λkq v7 v30 w'=>∃ (jF:Int) (dT:Int),v7 = .int .i64 jF/\v30 = .int .i64 dT/\aA1 (aAb.l0 kq a1 a2 jF aC (aC.length:Int) dT=some r)/\aA1 (kq<=kj3)/\aA1 (w'.heap[aD]? = some (.cells #[.int .i64 aE,(.slice aQ aC.length aG)] 25 (0,0)))/\aA1 (Below w.heap.size w w')));case atStart=>exact⟨(0),(0),zz5,zz5,H',⟨Nat.le_refl _⟩,⟨zz0⟩,⟨zz1⟩⟩
   case round =>
    clear H';(try clear c1);(try clear p2);(try clear c7);(try clear jE);(try clear c9);(try clear j6);(try clear c12);(try clear eE);(try clear eD);(try clear lW);(try clear lV);(try clear pS);(try clear pR);(try clear eB);(try clear d9);(try clear lO);(try clear lN);(try clear pG);(try clear pF);(try clear p2);obtain⟨jF,dT,rfl,rfl,HA,HK2,aA,HB⟩:=hrel
    cases gk with
    | zero=>exact absurd HA.out (by simp[aAb.l0])
    | succ k2 =>
     have H:=HA.out;clear HA;simp only[aAb.l0]at H;by_cases c14:dT<(aC.length:Int);rotate_left
     ·rw[if_neg c14]at H;have jT:=zdN c14;clear c14;obtain rfl:=zdI H;go_wp2;go_ret;exact⟨zz9,zz1⟩
     rw[if_pos c14]at H;have jT:=zdY c14;clear c14;by_cases c15:0<=dT;rotate_left
     ·rw[if_neg c15]at H;exact absurd H (by simp)
     rw[if_pos c15]at H;have mW:=zdY c15;clear c15;by_cases c16:dT<(aC.length:Int);rotate_left
     ·rw[if_neg c16]at H;exact absurd H (by simp)
     rw[if_pos c16]at H;have l9:=zdY c16;clear c16;obtain⟨iS,jO⟩:∃ j_:Int,(mn a1 a2)=j_:=⟨_,rfl⟩;(replace H:(if((aA2 aC dT).f0)=(iS) then(if((aA2 aC dT).f1)=(mx a1 a2) then(aAb.l0 k2 a1 a2 (wrap64 (jF+1)) aC (aC.length:Int) (wrap64 (dT+1))) else(aAb.l0 k2 a1 a2 jF aC (aC.length:Int) (wrap64 (dT+1)))) else(aAb.l0 k2 a1 a2 jF aC (aC.length:Int) (wrap64 (dT+1))))=some r:=by first|(rw[jO]at H;exact H)|(simp only[jO]at H ⊢;exact H));have o3:(if a2<a1 then a2 else a1)=iS:=jO;by_cases c18:((aA2 aC dT).f0)=(iS);rotate_left
     ·rw[if_neg c18]at H;have oS:(((aA2 aC dT).f0)==(iS))=false:=beq_eq_false_iff_ne.mpr c18;have oR:(((aA2 aC dT).f0) != (iS))=true:=bne_iff_ne.mpr c18;have H':=zK_ H;clear H;have aFe:0<=(dT:Int):=zdT zz4;have aFd:dT<(aC.length:Int):=zdT zz4;obtain⟨d8,aJn,cJ,cW⟩:=aDi b7.out dT aFe aFd;cases aJn;replace cJ:=(HB.out.cell (World.block_lt_of_cell? w _ cJ)).trans cJ;replace cW:=(HB.out.cell (World.block_lt_of_cell? w _ cW)).trans cW;replace aFe:=eq_true aFe;replace aFd:=eq_true aFd;(go_wp2_with (first|((with_reducible refine aAw (N:=9) rfl ?_);(try(refine aBu (by rfl) ?_;dsimp only));refine aAq ?hg (N:=9) ?hd (cs:=#[.int .i64 0,.int .i64 0]) (t:=73) ?hr ?_;(case hd=>rfl);(case hg=>rfl);(case hr=>exact aDq);intro b6 hg w27 hbox hb;have n_:=zA7 (aA4 (g:=aD) (o:=.cells #[.int .i64 aE,.slice (some d8) aC.length aG] 25 (0,0)) zz0 hb) (aA3 zz1 hb) hbox (aFb:w.heap.size<=b6) (aFb:w.heap.size<=b6) (aW1:aD≠b6) (aW0:b6≠aD);clear aA HB;obtain⟨aA,HB,bR,aK6,aK8,cU,dG⟩:=n_;clear hb hbox hg;have AG:=dG.out;have zV:=cU.out;have nZ:=aCg bR;have nY:=aCf bR;have nP:=aA0 bR.out 0;have nO:=aA0 bR.out 1)));go_roundg k2;(case measure=>have:=HJ3.out;have:=HK2.out;omega);case rel=>exact⟨(jF),(wrap64 (dT+1)),zz5,zz5,H',⟨aKq⟩,⟨aW3⟩,⟨aT0⟩⟩
     rw[if_pos c18]at H;have oS:(((aA2 aC dT).f0)==(iS))=true:=beq_iff_eq.mpr c18;have oR:(((aA2 aC dT).f0) != (iS))=false:=bne_eq_false_iff_eq.mpr c18;clear c18;obtain⟨rI,tX⟩:∃ j_:Int,(mx a1 a2)=j_:=⟨_,rfl⟩;(replace H:(if((aA2 aC dT).f1)=(rI) then(aAb.l0 k2 a1 a2 (wrap64 (jF+1)) aC (aC.length:Int) (wrap64 (dT+1))) else(aAb.l0 k2 a1 a2 jF aC (aC.length:Int) (wrap64 (dT+1))))=some r:=by first|(rw[tX]at H;exact H)|(simp only[tX]at H ⊢;exact H));have KE:(if a1<a2 then a2 else a1)=rI:=tX;by_cases c20:((aA2 aC dT).f1)=(rI);rotate_left
     ·rw[if_neg c20]at H;have qT:(((aA2 aC dT).f1)==(rI))=false:=beq_eq_false_iff_ne.mpr c20;have D8:(((aA2 aC dT).f1) != (rI))=true:=bne_iff_ne.mpr c20;have H':=zK_ H;clear H;have aFe:0<=(dT:Int):=zdT zz4;have aFd:dT<(aC.length:Int):=zdT zz4;obtain⟨d8,aJn,cJ,cW⟩:=aDi b7.out dT aFe aFd;cases aJn;replace cJ:=(HB.out.cell (World.block_lt_of_cell? w _ cJ)).trans cJ;replace cW:=(HB.out.cell (World.block_lt_of_cell? w _ cW)).trans cW;replace aFe:=eq_true aFe;replace aFd:=eq_true aFd;(go_wp2_with (first|((with_reducible refine aAw (N:=9) rfl ?_);(try(refine aBu (by rfl) ?_;dsimp only));refine aAq ?hg (N:=9) ?hd (cs:=#[.int .i64 0,.int .i64 0]) (t:=73) ?hr ?_;(case hd=>rfl);(case hg=>rfl);(case hr=>exact aDq);intro b6 hg w24 hbox hb;have n_:=zA7 (aA4 (g:=aD) (o:=.cells #[.int .i64 aE,.slice (some d8) aC.length aG] 25 (0,0)) zz0 hb) (aA3 zz1 hb) hbox (aFb:w.heap.size<=b6) (aFb:w.heap.size<=b6) (aW1:aD≠b6) (aW0:b6≠aD);clear aA HB;obtain⟨aA,HB,bR,aK6,aK8,cU,dG⟩:=n_;clear hb hbox hg;have OG:=dG.out;have NB:=cU.out;have pM:=aCg bR;have pL:=aCf bR;have o9:=aA0 bR.out 0;have o8:=aA0 bR.out 1)));go_roundg k2;(case measure=>have:=HJ3.out;have:=HK2.out;omega);case rel=>exact⟨(jF),(wrap64 (dT+1)),zz5,zz5,H',⟨aKq⟩,⟨aW3⟩,⟨aT0⟩⟩
     rw[if_pos c20]at H;have qT:(((aA2 aC dT).f1)==(rI))=true:=beq_iff_eq.mpr c20;have D8:(((aA2 aC dT).f1) != (rI))=false:=bne_eq_false_iff_eq.mpr c20;clear c20;have H':=zK_ H;clear H;have aFe:0<=(dT:Int):=zdT zz4;have aFd:dT<(aC.length:Int):=zdT zz4;obtain⟨d8,aJn,cJ,cW⟩:=aDi b7.out dT aFe aFd;cases aJn;replace cJ:=(HB.out.cell (World.block_lt_of_cell? w _ cJ)).trans cJ;replace cW:=(HB.out.cell (World.block_lt_of_cell? w _ cW)).trans cW;replace aFe:=eq_true aFe;replace aFd:=eq_true aFd;(go_wp2_with (first|((with_reducible refine aAw (N:=9) rfl ?_);(try(refine aBu (by rfl) ?_;dsimp only));refine aAq ?hg (N:=9) ?hd (cs:=#[.int .i64 0,.int .i64 0]) (t:=73) ?hr ?_;(case hd=>rfl);(case hg=>rfl);(case hr=>exact aDq);intro b6 hg w21 hbox hb;have n_:=zA7 (aA4 (g:=aD) (o:=.cells #[.int .i64 aE,.slice (some d8) aC.length aG] 25 (0,0)) zz0 hb) (aA3 zz1 hb) hbox (aFb:w.heap.size<=b6) (aFb:w.heap.size<=b6) (aW1:aD≠b6) (aW0:b6≠aD);clear aA HB;obtain⟨aA,HB,bR,aK6,aK8,cU,dG⟩:=n_;clear hb hbox hg;have tL:=dG.out;have tK:=cU.out;have gK:=aCg bR;have gJ:=aCf bR;have gI:=aA0 bR.out 0;have gH:=aA0 bR.out 1)));go_roundg k2;(case measure=>have:=HJ3.out;have:=HK2.out;omega);case rel=>exact⟨(wrap64 (jF+1)),(wrap64 (dT+1)),zz5,zz5,H',⟨aKq⟩,⟨aW3⟩,⟨aT0⟩⟩
mutual
def aB0.l0:Nat->List Int->List Int->Int->List (S73)->Option (List Int)
 | 0,_,_,_,_=>none
 | k+1,x1,x7,aU,aM=>aB0.l1 k x1 x7 (-1) 0 aU aM
def aB0.l1:Nat->List Int->List Int->Int->Int->Int->List (S73)->Option (List Int)
 | 0,_,_,_,_,_,_=>none
 | k+1,x1,x7,x8,x9,aU,aM=>if x9<aU then(aB0.j2 k x1 x7 x8 x9 (decide (x8<0)) aU aM) else(aB0.j2 k x1 x7 x8 x9 false aU aM)
def aB0.j2:Nat->List Int->List Int->Int->Int->Bool->Int->List (S73)->Option (List Int)
 | 0,_,_,_,_,_,_,_=>none
 | k+1,x1,x7,x8,x9,uT,aU,aM=>if uT=true then(aB0.l2 k x1 x7 x8 x9 0 x7 (x7.length:Int) 0 aU aM) else(if x8<0 then(some x7) else(if x7.length<17592186044416 then(aB0.l0 k x1 (x7++[x8]) aU aM) else(none)))
def aB0.l2:Nat->List Int->List Int->Int->Int->Int->List Int->Int->Int->Int->List (S73)->Option (List Int)
 | 0,_,_,_,_,_,_,_,_,_,_=>none
 | k+1,x1,x7,x8,x9,fK,zD,tE,uS,aU,aM=>if uS<tE then(if 0<=uS then(if uS<(zD.length:Int) then((aAb.f k aU aM x9 (rd zD uS)).bind λcV=>(aB0.l2 k x1 x7 x8 x9 (wrap64 (fK+cV)) zD tE (wrap64 (uS+1)) aU aM)) else(none)) else(none)) else((aBb.f k x7 x9).bind λoC=>(if oC=true then(aB0.l1 k x1 x7 x8 (wrap64 (x9+1)) aU aM) else(if 0<=x9 then(if x9<(x1.length:Int) then(if(rd x1 x9)<fK then(aB0.l1 k x1 x7 x9 (wrap64 (x9+1)) aU aM) else(aB0.l1 k x1 x7 x8 (wrap64 (x9+1)) aU aM)) else(none)) else(none))))
end
def aB0.f (k:Nat) (aE:Int) (aC:List (S73)) (l1:List Int) (a2:Int):Option (List Int):=aB0.l0 k l1 (([a2]:List Int)) aE aC
theorem aB0.aBa:∀ k,(∀ y0 y1 y2 y3,LeO (aB0.l0 k y0 y1 y2 y3) (aB0.l0 (k+1) y0 y1 y2 y3))/\(∀ y0 y1 y2 y3 y4 y5,LeO (aB0.l1 k y0 y1 y2 y3 y4 y5) (aB0.l1 (k+1) y0 y1 y2 y3 y4 y5))/\(∀ y0 y1 y2 y3 y4 y5 y6,LeO (aB0.j2 k y0 y1 y2 y3 y4 y5 y6) (aB0.j2 (k+1) y0 y1 y2 y3 y4 y5 y6))/\(∀ y0 y1 y2 y3 y4 y5 y6 y7 y8 y9,LeO (aB0.l2 k y0 y1 y2 y3 y4 y5 y6 y7 y8 y9) (aB0.l2 (k+1) y0 y1 y2 y3 y4 y5 y6 y7 y8 y9))
 | 0=>⟨λ_ _ _ _ r h=>by simp[aB0.l0]at h,λ_ _ _ _ _ _ r h=>by simp[aB0.l1]at h,λ_ _ _ _ _ _ _ r h=>by simp[aB0.j2]at h,λ_ _ _ _ _ _ _ _ _ _ r h=>by simp[aB0.l2]at h⟩
 | k+1=>by
  obtain⟨ih0,ih1,ih2,ih3⟩:=aB0.aBa k
  refine⟨?_,?_,?_,?_⟩
  ·intro y0 y1 y2 y3
   unfold aB0.l0
   exact zm4
  ·intro y0 y1 y2 y3 y4 y5
   unfold aB0.l1
   exact zm4
  ·intro y0 y1 y2 y3 y4 y5 y6
   unfold aB0.j2
   exact zm4
  ·intro y0 y1 y2 y3 y4 y5 y6 y7 y8 y9
   unfold aB0.l2
   exact zm4
theorem aB0.mono:∀ a0 a1 a2 a3 k,LeO (aB0.f k a0 a1 a2 a3) (aB0.f (k+1) a0 a1 a2 a3):=by
 intro a0 a1 a2 a3 k;obtain⟨ih0,ih1,ih2,ih3⟩:=aB0.aBa k;unfold aB0.f;exact zm4
theorem aB0.calls (k:Nat) (aE:Int) (aQ:Option Addr) (aG:Nat) (aC:List (S73)) (A1:Option Addr) (c1:Nat) (l1:List Int) (a2:Int) (r:List Int) (w:World) (hr0_1:Kd.C k73 w aQ aC.length aC) (hc0_1:aC.length<=aG) (hr1:Kd.C (Kd.int .i64) w A1 l1.length l1) (hc1:l1.length<=c1) (h:aB0.f k aE aC l1 a2=some r) :
  Calls Try.prog 106 #[.agg #[.int .i64 aE,.slice aQ aC.length aG],.slice A1 l1.length c1,.int .i64 a2] w λe w'=>∃ v0_:Value,e = .returned (v0_)/\Kd.R (Kd.int .i64) 3 w' w.heap.size (λ_=>True) v0_ r/\Below w.heap.size w w':=by
 have aIh:=Try.underlying25;have b7:=zK_ hr0_1;have bY:=zK_ hc0_1;clear hr0_1 hc0_1;have HR1:=zK_ hr1;have HC1:=zK_ hc1;clear hr1 hc1;have HB:=zK_ (Below.refl w.heap.size w);have H:(aB0.l0 k l1 (([a2]:List Int)) aE aC)=some r:=h;clear h;obtain⟨pW,hy_⟩:∃ y_:List Int,y_=(([a2]:List Int)):=⟨_,rfl⟩;(replace H:(aB0.l0 k l1 pW aE aC)=some r:=zzY);have kU:=zK_ hy_;clear hy_;have H':=zK_ H;clear H;go_enter Try.func106,Try.ntmps106;(go_wp2_with (first|((with_reducible refine aAw (N:=3) rfl ?_);refine aAq ?hg (N:=3) ?hd (cs:=#[.int .i64 aE,.slice aQ aC.length aG]) (t:=25) ?hr ?_;(case hd=>rfl);(case hg=>rfl);(case hr=>exact aDq);intro aD hg w4 hbox hb;have n_:=zA4 (aA3 zz2 hb) hbox (aE1:w.heap.size<=aD) (aE1:w.heap.size<=aD);clear HB;obtain⟨HB,aA,aDt,aDe⟩:=n_;clear hb hbox hg)|((with_reducible refine aAw (N:=14) rfl ?_);refine Kd.aP4 (Kd.int .i64) _ 3 ?hg (N:=14) ?hd (xs:=([a2]:List Int)) (inner:=[.int .i64 a2]) (ok:=λ_=>True) (okp:=λ_=>True) ?hr ?hp (λ_ hk=>hk) trivial (Below.refl _ _) (Nat.le_refl _) (by simp) ?_;(case hd=>rfl);(case hg=>rfl);(case hr=>exact aDq);(case hp=>exact(aEf.one (show Kd.M (Kd.int .i64) _ _ _ a2 [.int .i64 a2] from rfl) (aEf.none _ _)));intro aWc w5 ho6 hb hg_ aGn;clear hg_ aGn;(first|rw[<-kU.out]at ho6|(simp only[Int.reduceToNat]at ho6;rw[<-kU.out]at ho6));have n_:=zA3 (Kd.aCm ho6 (aAj zz1)) (aA4 (g:=aD) (o:=.cells #[.int .i64 aE,.slice aQ aC.length aG] 25 (0,0)) zz0 hb) (aA3 zz1 hb);clear aA HB;obtain⟨cQ,aA,HB⟩:=n_;clear hb ho6)));(go_loopg [7] k (λkq v7 w'=>∃ (dC:List Int),aA1 (aB0.l0 kq l1 dC aE aC=some r)/\aA1 (kq<=k)/\aA1 (Kd.R (Kd.int .i64) 3 w' w.heap.size (λ_=>True) v7 dC)/\aA1 (w'.heap[aD]? = some (.cells #[.int .i64 aE,(.slice aQ aC.length aG)] 25 (0,0)))/\aA1 (Below w.heap.size w w')));case atStart=>exact⟨(pW),H',⟨Nat.le_refl _⟩,⟨aMv⟩,⟨zz0⟩,⟨zz1⟩⟩
 case round =>
  clear H';(try clear c1);(try clear p2);obtain⟨dC,HA,HK1,lC,aA,HB⟩:=hrel
  cases gk with
  | zero=>exact absurd HA.out (by simp[aB0.l0])
  | succ k1 =>
   have H:=HA.out;clear HA;simp only[aB0.l0]at H;have H':=zK_ H;clear H;go_wp2;(go_loopg [8,9] k1 (λkq v8 v9 w'=>∃ (i9:Int) (fF:Int),v8 = .int .i64 i9/\v9 = .int .i64 fF/\aA1 (aB0.l1 kq l1 dC i9 fF aE aC=some r)/\aA1 (kq<=k1)/\aA1 (Kd.R (Kd.int .i64) 3 w' w.heap.size (λ_=>True) u7 dC)/\aA1 (w'.heap[aD]? = some (.cells #[.int .i64 aE,(.slice aQ aC.length aG)] 25 (0,0)))/\aA1 (Below w.heap.size w w')));case atStart=>exact⟨((-1)),(0),zz5,zz5,H',⟨Nat.le_refl _⟩,⟨aVn⟩,⟨zz0⟩,⟨zz1⟩⟩
   case round =>
    clear H';(try clear c1);(try clear p2);(try clear p2);obtain⟨i9,fF,rfl,rfl,HA,HK2,lC,aA,HB⟩:=hrel
    cases gk with
    | zero=>exact absurd HA.out (by simp[aB0.l1])
    | succ k2 =>
     have H:=HA.out;clear HA;simp only[aB0.l1]at H;have HC7:=zK_ H;clear H;(go_upto_region 4 with (fail));go_cut [22] (λv22 wc=>∃ (kq:Nat) (rS:Bool),v22 = .bool rS/\aA1 (aB0.j2 kq l1 dC i9 fF rS aE aC=some r)/\aA1 (kq<=k2)/\aA1 (Kd.R (Kd.int .i64) 3 wc w.heap.size (λ_=>True) u7 dC)/\aA1 (wc.heap[aD]? = some (.cells #[.int .i64 aE,(.slice aQ aC.length aG)] 25 (0,0)))/\aA1 (Below w.heap.size w wc))
     case first =>
      have H:=HC7.out;clear HC7;by_cases c8:fF<aE
      ·rw[if_pos c8]at H;have i3:=zdY c8;clear c8;(first|rw[i3]|(simp only[aF0,aK5];rw[i3])|skip);have H':=zK_ H;clear H;have iZ:=aCg aA;have iY:=aCf aA;have iX:=aA0 aA.out 0;have iW:=aA0 aA.out 1;go_wp2;(go_meet);case rel=>exact⟨_,(decide (i9<0)),zz5,H',⟨by have:=HK1.out;have:=HK2.out;first|omega|exact Nat.le_refl _⟩,⟨aVn⟩,⟨zz0⟩,⟨zz1⟩⟩
      rw[if_neg c8]at H;have i3:=zdN c8;clear c8;(first|rw[i3]|(simp only[aF0,aK5];rw[i3])|skip);have H':=zK_ H;clear H;have eE:=aCg aA;have eD:=aCf aA;have eB:=aA0 aA.out 0;have d9:=aA0 aA.out 1;go_wp2;(go_meet);case rel=>exact⟨_,(false),zz5,H',⟨by have:=HK1.out;have:=HK2.out;first|omega|exact Nat.le_refl _⟩,⟨aVn⟩,⟨zz0⟩,⟨zz1⟩⟩
     case rest =>
      clear HC7;(try clear c1);(try clear p2);(try clear c8);(try clear i3);(try clear c10);(try clear eE);(try clear eD);(try clear iZ);(try clear iY);(try clear eB);(try clear d9);(try clear iX);(try clear iW);(try clear p2);obtain⟨kq,rS,rfl,HA,HJ6,lC,aA,HB⟩:=hcut
      cases kq with
      | zero=>exact absurd HA.out (by simp[aB0.j2])
      | succ kj6 =>
       have H:=HA.out;clear HA;simp only[aB0.j2]at H;by_cases c11:rS=true;rotate_left
       ·replace c11:=zdB c11;subst c11;rw[if_neg (show ¬ (false=true) by decide)]at H;by_cases c24:i9<0
        ·rw[if_pos c24]at H;have uF:=zdY c24;clear c24;obtain rfl:=zdI H;go_wp2;go_ret;exact⟨_,zz9,aVn,zz1⟩
        rw[if_neg c24]at H;have uF:=zdN c24;clear c24;by_cases c25:dC.length<17592186044416;rotate_left
        ·rw[if_neg c25]at H;exact absurd H (by simp)
        rw[if_pos c25]at H;have ER:=zK_ c25;clear c25;obtain⟨i8,hy_⟩:∃ y_:List Int,y_=(dC++[i9]):=⟨_,rfl⟩;(replace H:(aB0.l0 kj6 l1 i8 aE aC)=some r:=zzY);have mZ:=zK_ hy_;clear hy_;have H':=zK_ H;clear H;(go_wp2_with (first|((with_reducible refine aBk (b:=.append) (xs:=#[.tmp 54,.tmp 56]) rfl ?_);at_builtin;refine Kd.aD3 (Kd.int .i64) (w0:=w) w.heap.size rfl (.tmp 54) (.tmp 56) 42 3 (.int .i64 0) 8 rfl Try.underlying42 info3 rfl (by decide) (by omega) u7 dC i9 [.int .i64 i9] (λ_=>True) (λ_=>False) rfl rfl ?aP (λ_ hk=>hk.elim) ?aF ?aO ?aB ?aS ?aL ?_;(case aP=>exact rfl);(case aB=>exact zz1);(case aF=>exact(λ_ _=>trivial));(case aO=>exact(by(with_reducible repeat(first|apply Kd.aAu|apply Kd.aAt|apply Kd.aB5));exact lC.out));(case aS=>exact(aAj zz1));(case aL=>have:=ER.out;omega);intro bD1 w26 ho hb hg hat;rw[<-mZ.out]at ho;have n_:=zA3 (aAx (g:=aD) (o:=.cells #[.int .i64 aE,.slice aQ aC.length aG] 25 (0,0)) zz0 hg (Kd.aEd lC.out aA.out (by decide))) hb ho;clear aA HB lC;obtain⟨aA,HB,uQ⟩:=n_;clear ho hb hg hat)));go_roundg kj6;(case measure=>have:=HK1.out;have:=HK2.out;have:=HJ6.out;omega);case rel=>exact⟨(i8),H',⟨by have:=HK1.out;have:=HK2.out;have:=HJ6.out;omega⟩,⟨by(with_reducible repeat(first|apply Kd.aAu|apply Kd.aAt|apply Kd.aB5));exact uQ.out⟩,⟨zz0⟩,⟨zz1⟩⟩
       subst c11;rw[if_pos rfl]at H;have H':=zK_ H;clear H;obtain⟨aZ4,aXu,rM⟩:=Kd.aBe lC.out;subst rM;go_wp2;(go_loopg [10,27] kj6 (λkq v10 v27 w'=>∃ (pX:Int) (kQ:Int),v10 = .int .i64 pX/\v27 = .int .i64 kQ/\aA1 (aB0.l2 kq l1 dC i9 fF pX dC (dC.length:Int) kQ aE aC=some r)/\aA1 (kq<=kj6)/\aA1 (Kd.R (Kd.int .i64) 3 w' w.heap.size (λ_=>True) (.slice aZ4 dC.length aXu) dC)/\aA1 (Kd.R (Kd.int .i64) 3 w' w.heap.size (λ_=>True) (.slice aZ4 dC.length aXu) dC)/\aA1 (w'.heap[aD]? = some (.cells #[.int .i64 aE,(.slice aQ aC.length aG)] 25 (0,0)))/\aA1 (Below w.heap.size w w')));case atStart=>exact⟨(0),(0),zz5,zz5,H',⟨Nat.le_refl _⟩,⟨aVn⟩,⟨aVn⟩,⟨zz0⟩,⟨zz1⟩⟩
       case round =>
        clear H';(try clear c1);(try clear p2);(try clear c8);(try clear i3);(try clear c10);(try clear c11);(try clear eE);(try clear eD);(try clear iZ);(try clear iY);(try clear eB);(try clear d9);(try clear iX);(try clear iW);(try clear p2);obtain⟨pX,kQ,rfl,rfl,HA,HK4,lC,q9,aA,HB⟩:=hrel
        cases gk with
        | zero=>exact absurd HA.out (by simp[aB0.l2])
        | succ k4 =>
         have H:=HA.out;clear HA;simp only[aB0.l2]at H;by_cases c13:kQ<(dC.length:Int)
         ·rw[if_pos c13]at H;have jU:=zdY c13;clear c13;by_cases c14:0<=kQ;rotate_left
          ·rw[if_neg c14]at H;exact absurd H (by simp)
          rw[if_pos c14]at H;have jT:=zdY c14;clear c14;by_cases c15:kQ<(dC.length:Int);rotate_left
          ·rw[if_neg c15]at H;exact absurd H (by simp)
          rw[if_pos c15]at H;have mW:=zdY c15;clear c15;obtain⟨cV,bFr,H⟩:=zO_ H;(try dsimp only at H);have A16:=zK_ bFr;clear bFr;have H':=zK_ H;clear H;have aJh:0<=(kQ:Int):=zdT zz4;have aJf:kQ<(dC.length:Int):=zdT zz4;obtain⟨gO,e108,dP⟩:=Kd.aCz (Kd.aAc q9.out).2.2 kQ aJh aJf;cases e108;replace aJh:=eq_true aJh;replace aJf:=eq_true aJf;have kN:=aCg aA;have kM:=aCf aA;have kJ:=aA0 aA.out 0;have kI:=aA0 aA.out 1;(go_wp2_with (first|((with_reducible refine aAa (f:=99) rfl ?_);refine aBg (some 35) rfl rfl Try.func99 (by kernel_rfl) rfl #[.agg #[.int .i64 aE,.slice aQ aC.length aG],.int .i64 fF,.int .i64 (rd dC kQ)] rfl zz3 ?_;(with_reducible refine(aAb.calls k4 aE _ _ aC fF (rd dC kQ) cV _ ?side1 ?side2 A16.out).mono ?_);(case side1=>exact zz7);(case side2=>exact bY.out);rintro e w18 ⟨rfl,hb⟩;refine⟨_,rfl,?_⟩;have n_:=zA4 (Kd.aBp (by(with_reducible repeat(first|apply Kd.aAu|apply Kd.aAt|apply Kd.aB5));exact lC.out) hb) (Kd.aBp (by(with_reducible repeat(first|apply Kd.aAu|apply Kd.aAt|apply Kd.aB5));exact q9.out) hb) (aA4 (g:=aD) (o:=.cells #[.int .i64 aE,.slice aQ aC.length aG] 25 (0,0)) zz0 hb) (aA3 zz1 hb);clear lC q9 aA HB;obtain⟨lC,q9,aA,HB⟩:=n_;clear hb)));go_roundg k4;(case measure=>have:=HK1.out;have:=HK2.out;have:=HJ6.out;have:=HK4.out;omega);case rel=>exact⟨(wrap64 (pX+cV)),(wrap64 (kQ+1)),zz5,zz5,H',⟨by have:=HK1.out;have:=HK2.out;have:=HJ6.out;have:=HK4.out;omega⟩,⟨aVn⟩,⟨by(with_reducible repeat(first|apply Kd.aAu|apply Kd.aAt|apply Kd.aB5));exact q9.out⟩,⟨zz0⟩,⟨zz1⟩⟩
         rw[if_neg c13]at H;have jU:=zdN c13;clear c13;obtain⟨oC,bFp,H⟩:=zO_ H;(try dsimp only at H);have A19:=zK_ bFp;clear bFp;by_cases c20:oC=true
         ·subst c20;rw[if_pos rfl]at H;have H':=zK_ H;clear H;(go_wp2_with (first|((with_reducible refine aAa (f:=107) rfl ?_);refine aBg (some 40) rfl rfl Try.func107 (by kernel_rfl) rfl #[.slice aZ4 dC.length aXu,.int .i64 fF] rfl zz3 ?_;(with_reducible refine(aBb.calls k4 _ _ dC fF true _ ?side1 ?side2 A19.out).mono ?_);(case side1=>repeat(first|exact(Kd.aAc lC.out).2.2|(with_reducible refine Kd.aCr ?_ _)|(with_reducible refine Kd.aCq ?_ _)|(with_reducible refine Kd.aDf ?_)));(case side2=>exact(Kd.aAc lC.out).2.1);rintro e w' ⟨rfl,⟨nd,rfl⟩⟩;refine⟨_,rfl,?_⟩)));go_roundg k4;(case measure=>have:=HK1.out;have:=HK2.out;have:=HJ6.out;have:=HK4.out;omega);case rel=>exact⟨(i9),(wrap64 (fF+1)),zz5,zz5,H',⟨by have:=HK1.out;have:=HK2.out;have:=HJ6.out;have:=HK4.out;omega⟩,⟨aVn⟩,⟨zz0⟩,⟨zz1⟩⟩
         replace c20:=zdB c20;subst c20;rw[if_neg (show ¬ (false=true) by decide)]at H;by_cases c21:0<=fF;rotate_left
         ·rw[if_neg c21]at H;exact absurd H (by simp)
         rw[if_pos c21]at H;have qR:=zdY c21;clear c21;by_cases c22:fF<(l1.length:Int);rotate_left
         ·rw[if_neg c22]at H;exact absurd H (by simp)
         rw[if_pos c22]at H;have sS:=zdY c22;clear c22;by_cases c23:(rd l1 fF)<pX
         ·rw[if_pos c23]at H;have xN:=zdY c23;clear c23;have H':=zK_ H;clear H;(go_wp2_with (first|((with_reducible refine aAa (f:=107) rfl ?_);refine aBg (some 40) rfl rfl Try.func107 (by kernel_rfl) rfl #[.slice aZ4 dC.length aXu,.int .i64 fF] rfl zz3 ?_;(with_reducible refine(aBb.calls k4 _ _ dC fF false _ ?side1 ?side2 A19.out).mono ?_);(case side1=>repeat(first|exact(Kd.aAc lC.out).2.2|(with_reducible refine Kd.aCr ?_ _)|(with_reducible refine Kd.aCq ?_ _)|(with_reducible refine Kd.aDf ?_)));(case side2=>exact(Kd.aAc lC.out).2.1);rintro e w' ⟨rfl,⟨nd,rfl⟩⟩;refine⟨_,rfl,?_⟩;have bAc:0<=(fF:Int):=zdT zz4;have bA8:fF<(l1.length:Int):=zdT zz4;obtain⟨EA,bH2,kH⟩:=Kd.aCz HR1.out fF bAc bA8;cases bH2;replace kH:=(HB.out.cell (World.block_lt_of_cell? w _ kH)).trans kH;replace bAc:=eq_true bAc;replace bA8:=eq_true bA8)));go_roundg k4;(case measure=>have:=HK1.out;have:=HK2.out;have:=HJ6.out;have:=HK4.out;omega);case rel=>exact⟨(fF),(wrap64 (fF+1)),zz5,zz5,H',⟨by have:=HK1.out;have:=HK2.out;have:=HJ6.out;have:=HK4.out;omega⟩,⟨aVn⟩,⟨zz0⟩,⟨zz1⟩⟩
         rw[if_neg c23]at H;have xN:=zdN c23;clear c23;have H':=zK_ H;clear H;(go_wp2_with (first|((with_reducible refine aAa (f:=107) rfl ?_);refine aBg (some 40) rfl rfl Try.func107 (by kernel_rfl) rfl #[.slice aZ4 dC.length aXu,.int .i64 fF] rfl zz3 ?_;(with_reducible refine(aBb.calls k4 _ _ dC fF false _ ?side1 ?side2 A19.out).mono ?_);(case side1=>repeat(first|exact(Kd.aAc lC.out).2.2|(with_reducible refine Kd.aCr ?_ _)|(with_reducible refine Kd.aCq ?_ _)|(with_reducible refine Kd.aDf ?_)));(case side2=>exact(Kd.aAc lC.out).2.1);rintro e w' ⟨rfl,⟨nd,rfl⟩⟩;refine⟨_,rfl,?_⟩;have bAc:0<=(fF:Int):=zdT zz4;have bA8:fF<(l1.length:Int):=zdT zz4;obtain⟨EA,bH2,kH⟩:=Kd.aCz HR1.out fF bAc bA8;cases bH2;replace kH:=(HB.out.cell (World.block_lt_of_cell? w _ kH)).trans kH;replace bAc:=eq_true bAc;replace bA8:=eq_true bA8)));go_roundg k4;(case measure=>have:=HK1.out;have:=HK2.out;have:=HJ6.out;have:=HK4.out;omega);case rel=>exact⟨(i9),(wrap64 (fF+1)),zz5,zz5,H',⟨by have:=HK1.out;have:=HK2.out;have:=HJ6.out;have:=HK4.out;omega⟩,⟨aVn⟩,⟨zz0⟩,⟨zz1⟩⟩
mutual
def aB2.l0:Nat->Int->List Int->List Int->Int->Int->List (S73)->Option (List Int×List Int)
 | 0,_,_,_,_,_,_=>none
 | k+1,x2,x8,x9,fK,aU,aM=>if fK≥0 then((aAy.f k aU aM fK).bind λcV=>(if 0<=fK then(if fK<(x8.length:Int) then(if cV=0 then(none) else((aCc.f k aU aM x8 fK (wrap64 (-(wrap64 (Int.tdiv (wrap64 ((wrap64 (cV-1))-(rd x8 fK))) cV))))).bind λjG=>(if fK<(x9.length:Int) then((aBt.f k jG x2).bind λm8=>(aB2.l0 k x2 jG (x9.set (fK:Int).toNat (wrap64 ((rd x9 fK)-(wrap64 (Int.tdiv (wrap64 ((wrap64 (cV-1))-(rd x8 fK))) cV))))) m8 aU aM)) else(none)))) else(none)) else(none))) else(aB2.l1 k x2 x8 x9 aU aM)
def aB2.l1:Nat->Int->List Int->List Int->Int->List (S73)->Option (List Int×List Int)
 | 0,_,_,_,_,_=>none
 | k+1,x2,x8,x9,aU,aM=>(aB0.f k aU aM x8 x2).bind λgC=>(if(gC.length:Int)=aU then(some (x8,x9)) else(aB2.l2 k x2 x8 x9 gC (x9.length:Int) 0 aU aM))
def aB2.l2:Nat->Int->List Int->List Int->List Int->Int->Int->Int->List (S73)->Option (List Int×List Int)
 | 0,_,_,_,_,_,_,_,_=>none
 | k+1,x2,x8,x9,fQ,GZ,u1,aU,aM=>if u1<GZ then((aBb.f k fQ u1).bind λoN=>(if oN=true then(aB2.l2 k x2 x8 x9 fQ GZ (wrap64 (u1+1)) aU aM) else((aCc.f k aU aM x8 u1 1).bind λoA=>(if 0<=u1 then(if u1<(x9.length:Int) then(aB2.l2 k x2 oA (x9.set (u1:Int).toNat (wrap64 ((rd x9 u1)+1))) fQ GZ (wrap64 (u1+1)) aU aM) else(none)) else(none))))) else(aB2.l1 k x2 x8 x9 aU aM)
end
def aB2.f (k:Nat) (aE:Int) (aC:List (S73)) (l1:List Int) (a2:Int):Option (List Int×List Int):=(aCk.f l1).bind λaX=>(if 0<=aE then(if(aE:Int).toNat<=35184372088832 then((aBt.f k aX a2).bind λfE=>(aB2.l0 k a2 aX (List.replicate (aE:Int).toNat 0) fE aE aC)) else(none)) else(none))
theorem aB2.aBa:∀ k,(∀ y0 y1 y2 y3 y4 y5,LeO (aB2.l0 k y0 y1 y2 y3 y4 y5) (aB2.l0 (k+1) y0 y1 y2 y3 y4 y5))/\(∀ y0 y1 y2 y3 y4,LeO (aB2.l1 k y0 y1 y2 y3 y4) (aB2.l1 (k+1) y0 y1 y2 y3 y4))/\(∀ y0 y1 y2 y3 y4 y5 y6 y7,LeO (aB2.l2 k y0 y1 y2 y3 y4 y5 y6 y7) (aB2.l2 (k+1) y0 y1 y2 y3 y4 y5 y6 y7))
 | 0=>⟨λ_ _ _ _ _ _ r h=>by simp[aB2.l0]at h,λ_ _ _ _ _ r h=>by simp[aB2.l1]at h,λ_ _ _ _ _ _ _ _ r h=>by simp[aB2.l2]at h⟩
 | k+1=>by
  obtain⟨ih0,ih1,ih2⟩:=aB2.aBa k
  refine⟨?_,?_,?_⟩
  ·intro y0 y1 y2 y3 y4 y5
   unfold aB2.l0
   exact zm5
  ·intro y0 y1 y2 y3 y4
   unfold aB2.l1
   exact zm5
  ·intro y0 y1 y2 y3 y4 y5 y6 y7
   unfold aB2.l2
   exact zm5
theorem aB2.mono:∀ a0 a1 a2 a3 k,LeO (aB2.f k a0 a1 a2 a3) (aB2.f (k+1) a0 a1 a2 a3):=by
 intro a0 a1 a2 a3 k;obtain⟨ih0,ih1,ih2⟩:=aB2.aBa k;unfold aB2.f;exact zm5
theorem aB2.calls (k:Nat) (aE:Int) (aQ:Option Addr) (aG:Nat) (aC:List (S73)) (A1:Option Addr) (c1:Nat) (l1:List Int) (a2:Int) (r1:List Int) (r2:List Int) (w:World) (hr0_1:Kd.C k73 w aQ aC.length aC) (hc0_1:aC.length<=aG) (hr1:Kd.C (Kd.int .i64) w A1 l1.length l1) (hc1:l1.length<=c1) (h:aB2.f k aE aC l1 a2=some (r1,r2)) :
  Calls Try.prog 69 #[.agg #[.int .i64 aE,.slice aQ aC.length aG],.slice A1 l1.length c1,.int .i64 a2] w λe w'=>∃ v0_ v1_:Value,e = .returned (.tuple #[v0_,v1_])/\Kd.R (Kd.int .i64) 3 w' w.heap.size (λk_=>some k_≠(v1_:Value).ownBlock) v0_ r1/\Kd.R (Kd.int .i64) 3 w' w.heap.size (λk_=>some k_≠(v0_:Value).ownBlock) v1_ r2/\Below w.heap.size w w':=by
 have aIh:=Try.underlying25;have b7:=zK_ hr0_1;have bY:=zK_ hc0_1;clear hr0_1 hc0_1;have HR1:=zK_ hr1;have HC1:=zK_ hc1;clear hr1 hc1;have HB:=zK_ (Below.refl w.heap.size w);have H:((aCk.f l1).bind λaX=>(if 0<=aE then(if(aE:Int).toNat<=35184372088832 then((aBt.f k aX a2).bind λfE=>(aB2.l0 k a2 aX (List.replicate (aE:Int).toNat 0) fE aE aC)) else(none)) else(none)))=some (r1,r2):=h;clear h;obtain⟨aX,A40,H⟩:=zO_ H;(try dsimp only at H);have A4:=zK_ A40;clear A40;by_cases c5:0<=aE;rotate_left
 ·rw[if_neg c5]at H;exact absurd H (by simp)
 rw[if_pos c5]at H;have fL:=eq_true c5;have qM:decide (0<=aE)=true:=zdY c5;clear c5;by_cases c6:(aE:Int).toNat<=35184372088832;rotate_left
 ·rw[if_neg c6]at H;exact absurd H (by simp)
 rw[if_pos c6]at H;have iT:=eq_true c6;have nI:decide ((aE:Int).toNat<=35184372088832)=true:=zdY c6;clear c6;obtain⟨i8,hy_⟩:∃ y_:List Int,y_=(List.replicate (aE:Int).toNat 0):=⟨_,rfl⟩;(replace H:((aBt.f k aX a2).bind λfE=>(aB2.l0 k a2 aX i8 fE aE aC))=some (r1,r2):=zzY);have mZ:=zK_ hy_;clear hy_;obtain⟨fE,A70,H⟩:=zO_ H;(try dsimp only at H);have A7:=zK_ A70;clear A70;have H':=zK_ H;clear H;go_enter Try.func69,Try.ntmps69;(go_wp2_with (first|((with_reducible refine aAw (N:=3) rfl ?_);refine aAq ?hg (N:=3) ?hd (cs:=#[.int .i64 aE,.slice aQ aC.length aG]) (t:=25) ?hr ?_;(case hd=>rfl);(case hg=>rfl);(case hr=>exact aDq);intro aD hg w8 hbox hb;have n_:=zA4 (aA3 zz2 hb) hbox (aE1:w.heap.size<=aD) (aE1:w.heap.size<=aD);clear HB;obtain⟨HB,aA,aDt,aDe⟩:=n_;clear hb hbox hg)|((with_reducible refine aAa (f:=43) rfl ?_);refine aBg (some 16) rfl rfl Try.func43 (by kernel_rfl) rfl #[.slice A1 l1.length c1] rfl zz3 ?_;(with_reducible refine(aCk.calls _ _ l1 aX _ ?side1 ?side2 A4.out).mono ?_);(case side1=>exact aP9);(case side2=>exact HC1.out);rintro e w9 ⟨aWc,rfl,ho0,hb⟩;refine⟨_,rfl,?_⟩;have n_:=zA3 (Kd.aCm ho0 (aAj zz1)) (aA4 (g:=aD) (o:=.cells #[.int .i64 aE,.slice aQ aC.length aG] 25 (0,0)) zz0 hb) (aA3 zz1 hb);clear aA HB;obtain⟨cQ,aA,HB⟩:=n_;clear ho0 hb;have eE:=aCg aA;have eD:=aCf aA;have eB:=aA0 aA.out 0;have d9:=aA0 aA.out 1)|((with_reducible refine aAw (N:=19) rfl ?_);refine Kd.aRn (Kd.int .i64) _ 3 rfl (N:=19) rfl 42 _ _ rfl aE rfl rfl Try.underlying42 (.int .i64 0) 8 info3 rfl (by decide) (by omega) 0 (ok:=λ_=>True) (okp:=λ_=>True) rfl (λ_ hk=>hk) trivial (zdT zz4) (Nat.le_trans (Nat.mul_le_mul_right _ (zdT zz4:aE.toNat<=35184372088832)) (by omega)) (Below.refl _ _) (Nat.le_refl _) ?_;intro bD1 w11 aSf hb hg_ aGn;clear hg_ aGn;(first|rw[<-mZ.out]at aSf|(simp only[Int.reduceToNat]at aSf;rw[<-mZ.out]at aSf));have n_:=zA4 (Kd.aBz aMv (Kd.aCw aSf) hb) (Kd.aCm (Kd.aD2 aSf (Kd.aEy aMv)) (aAj zz1)) (aA4 (g:=aD) (o:=.cells #[.int .i64 aE,.slice aQ aC.length aG] 25 (0,0)) zz0 hb) (aA3 zz1 hb);clear cQ aA HB;obtain⟨cQ,uQ,aA,HB⟩:=n_;clear hb aSf;obtain⟨aFx,aEq,qL⟩:=Kd.aBe cQ.out;subst qL)|((with_reducible refine aAa (f:=104) rfl ?_);refine aBg (some 22) rfl rfl Try.func104 (by kernel_rfl) rfl #[.slice aFx aX.length aEq,.int .i64 a2] rfl zz3 ?_;(with_reducible refine(aBt.calls k _ _ aX a2 fE _ ?side1 ?side2 A7.out).mono ?_);(case side1=>exact aZf);(case side2=>exact(Kd.aAc cQ.out).2.1);rintro e w' ⟨rfl,⟨nd,rfl⟩⟩;refine⟨_,rfl,?_⟩)));(go_loopg [10] k (λkq v10 w'=>∃ (cP:List Int) (b8:List Int) (cC:Int),v10 = .int .i64 cC/\aA1 (aB2.l0 kq a2 cP b8 cC aE aC=some (r1,r2))/\aA1 (kq<=k)/\aA1 (Kd.R (Kd.int .i64) 3 w' w.heap.size (λk_=>some k_≠(bD1:Value).ownBlock) (.slice aFx aX.length aEq) cP)/\aA1 (Kd.R (Kd.int .i64) 3 w' w.heap.size (λk_=>some k_≠((.slice aFx aX.length aEq):Value).ownBlock) bD1 b8)/\aA1 (w'.heap[aD]? = some (.cells #[.int .i64 aE,(.slice aQ aC.length aG)] 25 (0,0)))/\aA1 (Below w.heap.size w w')));case atStart=>exact⟨(aX),(i8),(fE),zz5,H',⟨Nat.le_refl _⟩,⟨by(with_reducible repeat(first|apply Kd.aAu|apply Kd.aAt|apply Kd.aB5));exact Kd.aBh cQ.out (λ_ hk=>hk.2)⟩,⟨by(with_reducible repeat(first|apply Kd.aAu|apply Kd.aAt|apply Kd.aB5));exact Kd.aBh uQ.out (λ_ hk=>hk.2)⟩,⟨zz0⟩,⟨zz1⟩⟩
 case round =>
  clear H';(try clear c1);(try clear p2);(try clear c4);(try clear c5);(try clear fL);(try clear qM);(try clear c6);(try clear iT);(try clear nI);(try clear c10);(try clear eE);(try clear eD);(try clear eB);(try clear d9);obtain⟨cP,b8,cC,rfl,HA,HK1,dS,d3,aA,HB⟩:=hrel;have eO:=(Kd.aAc dS.out).1;rw[eO]at dS;(try simp only[eO]);(try simp only[eO]at aA);(try simp only[eO]at d3)
  cases gk with
  | zero=>exact absurd HA.out (by simp[aB2.l0])
  | succ k1 =>
   have H:=HA.out;clear HA;simp only[aB2.l0]at H;by_cases c14:cC≥0
   ·rw[if_pos c14]at H;have jT:decide (0<=cC)=true:=zdY c14;clear c14;obtain⟨cV,aZ5,H⟩:=zO_ H;(try dsimp only at H);have A15:=zK_ aZ5;clear aZ5;by_cases c16:0<=cC;rotate_left
    ·rw[if_neg c16]at H;exact absurd H (by simp)
    rw[if_pos c16]at H;have l9:=zdY c16;clear c16;by_cases c17:cC<(cP.length:Int);rotate_left
    ·rw[if_neg c17]at H;exact absurd H (by simp)
    rw[if_pos c17]at H;have l8:=zdY c17;(try(have qU:=l8;first|rw[eO]at qU|rw[<-eO]at qU));clear c17;by_cases c18:cV=0
    ·rw[if_pos c18]at H;exact absurd H (by simp)
    rw[if_neg c18]at H;have oS:(cV==0)=false:=beq_eq_false_iff_ne.mpr c18;have oR:(cV != 0)=true:=bne_iff_ne.mpr c18;obtain⟨jG,bFp,H⟩:=zO_ H;(try dsimp only at H);have A19:=zK_ bFp;clear bFp;by_cases c20:cC<(b8.length:Int);rotate_left
    ·rw[if_neg c20]at H;exact absurd H (by simp)
    rw[if_pos c20]at H;have qT:=zdY c20;(try(have qS:=qT;first|rw[eO]at qS|rw[<-eO]at qS));clear c20;obtain⟨lY,hy_⟩:∃ y_:List Int,y_=(b8.set (cC:Int).toNat (wrap64 ((rd b8 cC)-(wrap64 (Int.tdiv (wrap64 ((wrap64 (cV-1))-(rd cP cC))) cV))))):=⟨_,rfl⟩;(replace H:((aBt.f k1 jG a2).bind λm8=>(aB2.l0 k1 a2 jG lY m8 aE aC))=some (r1,r2):=zzY);have uK:=zK_ hy_;clear hy_;obtain⟨m8,bJn,H⟩:=zO_ H;(try dsimp only at H);have A22:=zK_ bJn;clear bJn;have H':=zK_ H;clear H;have gK:=aCg aA;have gJ:=aCf aA;have gI:=aA0 aA.out 0;have gH:=aA0 aA.out 1;(go_wp2_with (first|((with_reducible refine aAa (f:=100) rfl ?_);refine aBg (some 30) rfl rfl Try.func100 (by kernel_rfl) rfl #[.agg #[.int .i64 aE,.slice aQ aC.length aG],.int .i64 cC] rfl zz3 ?_;(with_reducible refine(aAy.calls k1 aE _ _ aC cC cV _ ?side1 ?side2 A15.out).mono ?_);(case side1=>exact zz7);(case side2=>exact bY.out);rintro e w24 ⟨rfl,hb⟩;refine⟨_,rfl,?_⟩;have n_:=zA4 (Kd.aBp aT2 hb) (Kd.aBp aT1 hb) (aA4 (g:=aD) (o:=.cells #[.int .i64 aE,.slice aQ aC.length aG] 25 (0,0)) zz0 hb) (aA3 zz1 hb);clear dS d3 aA HB;obtain⟨dS,d3,aA,HB⟩:=n_;clear hb;have aWy:0<=(cC:Int):=zdT zz4;have aWv:cC<(cP.length:Int):=zdT zz4;obtain⟨nE,bH3,lG⟩:=Kd.aCz (Kd.aAc dS.out).2.2 cC aWy aWv;cases bH3;replace aWy:=eq_true aWy;replace aWv:=eq_true aWv;have f3:=aCg aA;have fZ:=aCf aA;have fW:=aA0 aA.out 0;have fV:=aA0 aA.out 1)|((with_reducible refine aAa (f:=105) rfl ?_);refine aBg (some 45) rfl rfl Try.func105 (by kernel_rfl) rfl #[.agg #[.int .i64 aE,.slice aQ aC.length aG],.slice (some nE) cP.length aEq,.int .i64 cC,.int .i64 (wrap64 (-(wrap64 (Int.tdiv (wrap64 ((wrap64 (cV-1))-(rd cP cC))) cV))))] rfl zz3 ?_;(with_reducible refine(aCc.calls k1 aE _ _ aC (λk_=>some k_=(.slice (some nE) cP.length aEq:Value).ownBlock) (.slice (some nE) cP.length aEq) cP cC (wrap64 (-(wrap64 (Int.tdiv (wrap64 ((wrap64 (cV-1))-(rd cP cC))) cV)))) jG w _ ?side1 ?side2 ?side3 ?side4 A19.out).mono ?_);(case side1=>exact zz1);(case side2=>exact Kd.aLt aNe b7.out zz1 (λk_ hs_=>(λe_=>Kd.aCw dS.out k_ e_.symm) hs_));(case side3=>exact bY.out);(case side4=>exact Kd.aNo rfl dS.out);rintro e w26 ⟨rfl,hy0,hb,hkp⟩;refine⟨_,rfl,?_⟩;have n_:=zA4 (Kd.aYz rfl hy0 (λk_ e_=>dS.out.1 k_ e_)) (Kd.aBh (ok':=λk_=>some k_≠(.slice (some nE) cP.length aEq:Value).ownBlock) (Kd.aQa (d3.out) hkp (by intro k_ hk_ hs_;first|exact hk_ hs_|exact hk_ hs_|exact hk_.1 hs_|exact hk_.2 hs_|exact hk_.1.1 hs_|exact hk_.1.2 hs_|exact hk_.2.1 hs_|exact hk_.2.2 hs_|exact hk_.1.1.1 hs_|exact hk_.1.1.2 hs_|exact hk_.1.2.1 hs_|exact hk_.1.2.2 hs_|exact hk_.2.2.1 hs_|exact hk_.2.2.2 hs_|exact hk_.1.1.1.1 hs_|exact hk_.1.1.1.2 hs_|exact hk_.1.1.1.1.2 hs_)) (by intro k_ hk_;first|exact hk_.1|(simp only[ne_eq,true_and,and_true]at hk_ ⊢;simp only[hk_,not_false_eq_true,and_self]))) (aRi zz0 hkp (λhs_=>(λe_=>(Kd.aEd dS.out aA.out (by decide)) e_) hs_)) hb;clear dS d3 aA HB;obtain⟨dS,d3,aA,HB⟩:=n_;clear hy0 hb hkp;obtain⟨bNr,bHa,LV⟩:=Kd.aBe d3.out;subst LV;have aGt:0<=(cC:Int):=zdT zz4;have aGs:cC<(b8.length:Int):=zdT zz4;obtain⟨kT,aNh,gG⟩:=Kd.aCz (Kd.aAc d3.out).2.2 cC aGt aGs;cases aNh;replace aGt:=eq_true aGt;replace aGs:=eq_true aGs;have p21:0<=(cC:Int):=zdT zz4;have q21:(cC:Int)<((b8.length:Int):Int):=zdT zz4;obtain⟨bEc,bG7,wV,DG,bKz,bN7,bIw⟩:=Kd.aHs d3.out (by omega);(first|cases wV|(injection wV with ea_ en_ ec_;(first|subst ea_|(injection ea_ with ea_;subst ea_));subst ec_;clear en_));have MA:=zK_ DG;have P1:=zK_ bIw;clear DG bKz bIw;(first|simp only[add_plain]at gG|skip);obtain⟨tJ,K3⟩:=Kd.aEb 0 d3.out (cC:Int) p21 q21;replace p21:=eq_true p21;replace q21:=eq_true q21;obtain⟨bKe,bK6⟩:=Kd.aEb 0 d3.out (cC:Int) (zdT zz4) (zdT zz4);have yU:=Kd.aIb d3.out (cC:Int) (wrap64 ((rd b8 cC)-(wrap64 (Int.tdiv (wrap64 ((wrap64 (cV-1))-(rd cP cC))) cV)))))|((with_reducible refine aEa (t:=3) (p:=52) rfl ?_);refine aE5 (t:=3) (p:=52) (v:=?vo_w29) (w1:=(w26.setCell ⟨bEc,(cC:Int).toNat,none⟩ (.int .i64 (wrap64 ((rd b8 cC)-(wrap64 (Int.tdiv (wrap64 ((wrap64 (cV-1))-(rd cP cC))) cV))))))) ?hg ?ho ?hn ?hr ?_;(case ho=>rfl);(case hg=>rfl);(case hn=>rfl);(case hr=>exact aDq);intro w29 hw;have hg:w26.grownBy w29 (some bEc):=(by rw[hw];exact yU.2);have hp_:Kd.R (Kd.int .i64) 3 w29 w.heap.size (λk_=>some k_≠(.slice (some nE) cP.length aEq:Value).ownBlock) (.slice (some ⟨bEc,0,none⟩) b8.length bHa) lY:=(by rw[hw,uK.out];exact yU.1);clear yU;have n_:=zA4 (Kd.aJs (v:=(.slice (some ⟨bEc,0,none⟩) b8.length bHa)) (v1:=(.slice (some ⟨bEc,0,none⟩) b8.length bHa)) (ok:=(λ_=>True)) (by(with_reducible repeat(first|apply Kd.aAu|apply Kd.aAt|apply Kd.aB5));exact Kd.aBh dS.out (λ_ hk=>⟨trivial,hk⟩)) hg (.inl rfl)) hp_ (aAx (g:=aD) (o:=.cells #[.int .i64 aE,.slice aQ aC.length aG] 25 (0,0)) zz0 hg (Kd.aEd d3.out aA.out (by decide))) (by rw[hw];exact aAi (HB.out) MA.out:Below w.heap.size w w29);clear dS d3 aA HB;obtain⟨dS,d3,aA,HB⟩:=n_;clear hg hw hp_)|((with_reducible refine aAa (f:=104) rfl ?_);refine aBg (some 27) rfl rfl Try.func104 (by kernel_rfl) rfl #[.slice (some nE) jG.length aEq,.int .i64 a2] rfl (by(try simp only[List.map_toArray,List.map_cons,List.map_nil]);first|done|(rw[show jG.length=cP.length from(Kd.aAc dS.out).1.symm]<;>rfl)|rfl|(simp only[List.length_drop,List.length_take];rfl)) ?_;(with_reducible refine(aBt.calls k1 _ _ jG a2 m8 _ ?side1 ?side2 A22.out).mono ?_);(case side1=>repeat(first|exact(Kd.aAc dS.out).2.2|(with_reducible refine Kd.aCr ?_ _)|(with_reducible refine Kd.aCq ?_ _)|(with_reducible refine Kd.aDf ?_)));(case side2=>rw[show jG.length=cP.length from(Kd.aAc dS.out).1.symm];exact(Kd.aAc dS.out).2.1);rintro e w' ⟨rfl,⟨nd,rfl⟩⟩;refine⟨_,rfl,?_⟩)));(try simp only[<-eO]);go_roundg k1;(case measure=>have:=HK1.out;omega);case rel=>exact⟨(jG),(lY),(m8),zz5,H',⟨aFc⟩,⟨by(try simp only[eO]);(with_reducible repeat(first|apply Kd.aAu|apply Kd.aAt|apply Kd.aB5));exact Kd.aBh dS.out (λ_ hk=>hk.2)⟩,⟨by(try simp only[eO]);(with_reducible repeat(first|apply Kd.aAu|apply Kd.aAt|apply Kd.aB5));exact d3.out⟩,⟨by(try simp only[eO]);(with_reducible repeat(first|refine aA6 ?_ _|refine aA9 ?_|refine aA7 ?_ _));exact aA.out⟩,⟨zz1⟩⟩
   rw[if_neg c14]at H;have jT:decide (0<=cC)=false:=zdN c14;clear c14;have H':=zK_ H;clear H;go_wp2;(go_loopg [] k1 (λkq w'=>∃ (i9:List Int) (fF:List Int),aA1 (aB2.l1 kq a2 i9 fF aE aC=some (r1,r2))/\aA1 (kq<=k1)/\aA1 (Kd.R (Kd.int .i64) 3 w' w.heap.size (λk_=>some k_≠(bD1:Value).ownBlock) (.slice aFx cP.length aEq) i9)/\aA1 (Kd.R (Kd.int .i64) 3 w' w.heap.size (λk_=>some k_≠((.slice aFx cP.length aEq):Value).ownBlock) bD1 fF)/\aA1 (w'.heap[aD]? = some (.cells #[.int .i64 aE,(.slice aQ aC.length aG)] 25 (0,0)))/\aA1 (Below w.heap.size w w')));case atStart=>exact⟨(cP),(b8),H',⟨Nat.le_refl _⟩,⟨by(try simp only[eO]);(with_reducible repeat(first|apply Kd.aAu|apply Kd.aAt|apply Kd.aB5));exact dS.out⟩,⟨by(try simp only[eO]);(with_reducible repeat(first|apply Kd.aAu|apply Kd.aAt|apply Kd.aB5));exact d3.out⟩,⟨by(try simp only[eO]);(with_reducible repeat(first|refine aA6 ?_ _|refine aA9 ?_|refine aA7 ?_ _));exact aA.out⟩,⟨zz1⟩⟩
   case round =>
    clear H';(try clear c1);(try clear p1);(try clear q1);(try clear hx1);(try clear c2);(try clear p2);(try clear q2);(try clear hx2);(try clear c4);(try clear c5);(try clear fL);(try clear qM);(try clear c6);(try clear iT);(try clear nI);(try clear p6);(try clear c10);(try clear p11);(try clear q11);(try clear bKj);(try clear c14);(try clear jT);(try clear c16);(try clear l9);(try clear c17);(try clear l8);(try clear c18);(try clear oS);(try clear oR);(try clear c20);(try clear qT);(try clear p21);(try clear q21);(try clear bKi);(try clear bKs);(try clear eE);(try clear eD);(try clear gK);(try clear gJ);(try clear f3);(try clear fZ);(try clear eB);(try clear d9);(try clear gI);(try clear gH);(try clear fW);(try clear fV);(try clear lG);(try clear gG);(try clear tJ);(try clear aWy);(try clear aGt);(try clear p2);(try clear p21);(try clear aWv);(try clear aGs);(try clear q21);obtain⟨i9,fF,HA,HK2,dS,d3,aA,HB⟩:=hrel;have fJ:=(Kd.aAc dS.out).1;rw[fJ]at dS;(try simp only[fJ]);(try simp only[fJ]at aA);(try simp only[fJ]at d3)
    cases gk with
    | zero=>exact absurd HA.out (by simp[aB2.l1])
    | succ k2 =>
     have H:=HA.out;clear HA;simp only[aB2.l1]at H;obtain⟨gC,bFo,H⟩:=zO_ H;(try dsimp only at H);have A30:=zK_ bFo;clear bFo;by_cases c31:(gC.length:Int)=aE
     ·rw[if_pos c31]at H;have k9:((gC.length:Int)==aE)=true:=beq_iff_eq.mpr c31;have oQ:((gC.length:Int) != aE)=false:=bne_eq_false_iff_eq.mpr c31;clear c31;simp only[Option.some.injEq,Prod.mk.injEq]at H;obtain⟨rfl,rfl⟩:=H;have wR:=aCg aA;have wQ:=aCf aA;have vW:=aA0 aA.out 0;have vV:=aA0 aA.out 1;(go_wp2_with (first|((with_reducible refine aAa (f:=106) rfl ?_);refine aBg (some 56) rfl rfl Try.func106 (by kernel_rfl) rfl #[.agg #[.int .i64 aE,.slice aQ aC.length aG],.slice aFx i9.length aEq,.int .i64 a2] rfl zz3 ?_;(with_reducible refine(aB0.calls k2 aE _ _ aC _ _ i9 a2 gC _ ?side1 ?side2 ?side3 ?side4 A30.out).mono ?_);(case side1=>exact zz7);(case side2=>exact bY.out);(case side3=>repeat(first|exact(Kd.aAc dS.out).2.2|(with_reducible refine Kd.aCr ?_ _)|(with_reducible refine Kd.aCq ?_ _)|(with_reducible refine Kd.aDf ?_)));(case side4=>exact(Kd.aAc dS.out).2.1);rintro e w33 ⟨bI6,rfl,ho0,hb⟩;refine⟨_,rfl,?_⟩;have n_:=zA5 (Kd.aBz aT2 (Kd.aCw ho0) hb) (Kd.aBz aT1 (Kd.aCw ho0) hb) (Kd.aCm (Kd.aD2 (Kd.aD2 ho0 (Kd.aEy aT2)) (Kd.aEy aT1)) (aAj zz1)) (aA4 (g:=aD) (o:=.cells #[.int .i64 aE,.slice aQ aC.length aG] 25 (0,0)) zz0 hb) (aA3 zz1 hb);clear dS d3 aA HB;obtain⟨dS,d3,oK,aA,HB⟩:=n_;clear ho0 hb;obtain⟨bLv,bLa,yK⟩:=Kd.aBe oK.out;subst yK;have g8:=aCg aA;have g7:=aCf aA;have g6:=aA0 aA.out 0;have g5:=aA0 aA.out 1)));(go_ret2);exact⟨_,_,zz9,by(with_reducible repeat(first|apply Kd.aAu|apply Kd.aAt|apply Kd.aB5));exact Kd.aBh dS.out (λ_ hk=>hk.1),by(with_reducible repeat(first|apply Kd.aAu|apply Kd.aAt|apply Kd.aB5));exact Kd.aBh d3.out (λ_ hk=>hk.1),zz1⟩
     rw[if_neg c31]at H;have k9:((gC.length:Int)==aE)=false:=beq_eq_false_iff_ne.mpr c31;have oQ:((gC.length:Int) != aE)=true:=bne_iff_ne.mpr c31;have H':=zK_ H;clear H;have wN:=aCg aA;have wM:=aCf aA;have vS:=aA0 aA.out 0;have vR:=aA0 aA.out 1;(go_wp2_with (first|((with_reducible refine aAa (f:=106) rfl ?_);refine aBg (some 56) rfl rfl Try.func106 (by kernel_rfl) rfl #[.agg #[.int .i64 aE,.slice aQ aC.length aG],.slice aFx i9.length aEq,.int .i64 a2] rfl zz3 ?_;(with_reducible refine(aB0.calls k2 aE _ _ aC _ _ i9 a2 gC _ ?side1 ?side2 ?side3 ?side4 A30.out).mono ?_);(case side1=>exact zz7);(case side2=>exact bY.out);(case side3=>repeat(first|exact(Kd.aAc dS.out).2.2|(with_reducible refine Kd.aCr ?_ _)|(with_reducible refine Kd.aCq ?_ _)|(with_reducible refine Kd.aDf ?_)));(case side4=>exact(Kd.aAc dS.out).2.1);rintro e w37 ⟨bI6,rfl,ho0,hb⟩;refine⟨_,rfl,?_⟩;have n_:=zA5 (Kd.aBz aT2 (Kd.aCw ho0) hb) (Kd.aBz aT1 (Kd.aCw ho0) hb) (Kd.aCm (Kd.aD2 (Kd.aD2 ho0 (Kd.aEy aT2)) (Kd.aEy aT1)) (aAj zz1)) (aA4 (g:=aD) (o:=.cells #[.int .i64 aE,.slice aQ aC.length aG] 25 (0,0)) zz0 hb) (aA3 zz1 hb);clear dS d3 aA HB;obtain⟨dS,d3,oK,aA,HB⟩:=n_;clear ho0 hb;obtain⟨aMu,aMp,t8⟩:=Kd.aBe oK.out;subst t8;have lS:=aCg aA;have lR:=aCf aA;have lK:=aA0 aA.out 0;have lJ:=aA0 aA.out 1;obtain⟨aY5,aPf,t7⟩:=Kd.aBe d3.out;subst t7)));(go_loopg [66] k2 (λkq v66 w'=>∃ (kZ:List Int) (jM:List Int) (eM:Int),v66 = .int .i64 eM/\aA1 (aB2.l2 kq a2 kZ jM gC (fF.length:Int) eM aE aC=some (r1,r2))/\aA1 (kq<=k2)/\aA1 (Kd.R (Kd.int .i64) 3 w' w.heap.size (λk_=>some k_≠((.slice aY5 fF.length aPf):Value).ownBlock/\some k_≠((.slice aMu gC.length aMp):Value).ownBlock) (.slice aFx i9.length aEq) kZ)/\aA1 (Kd.R (Kd.int .i64) 3 w' w.heap.size (λk_=>some k_≠((.slice aFx i9.length aEq):Value).ownBlock/\some k_≠((.slice aMu gC.length aMp):Value).ownBlock) (.slice aY5 fF.length aPf) jM)/\aA1 (Kd.R (Kd.int .i64) 3 w' w.heap.size (λk_=>some k_≠((.slice aFx i9.length aEq):Value).ownBlock/\some k_≠((.slice aY5 fF.length aPf):Value).ownBlock) (.slice aMu gC.length aMp) gC)/\aA1 (w'.heap[aD]? = some (.cells #[.int .i64 aE,(.slice aQ aC.length aG)] 25 (0,0)))/\aA1 (Below w.heap.size w w')));case atStart=>exact⟨(i9),(fF),(0),zz5,H',⟨Nat.le_refl _⟩,⟨by(try simp only[eO]);(try simp only[fJ]);(with_reducible repeat(first|apply Kd.aAu|apply Kd.aAt|apply Kd.aB5));exact dS.out⟩,⟨by(try simp only[eO]);(try simp only[fJ]);(with_reducible repeat(first|apply Kd.aAu|apply Kd.aAt|apply Kd.aB5));exact d3.out⟩,⟨by(try simp only[eO]);(try simp only[fJ]);(with_reducible repeat(first|apply Kd.aAu|apply Kd.aAt|apply Kd.aB5));exact Kd.aBh oK.out (λ_ hk=>⟨hk.1.2,hk.2⟩)⟩,⟨by(try simp only[eO]);(try simp only[fJ]);(with_reducible repeat(first|refine aA6 ?_ _|refine aA9 ?_|refine aA7 ?_ _));exact aA.out⟩,⟨zz1⟩⟩
     case round =>
      clear H';(try clear c1);(try clear p1);(try clear q1);(try clear hx1);(try clear c2);(try clear p2);(try clear q2);(try clear hx2);(try clear c3);(try clear c4);(try clear c5);(try clear fL);(try clear qM);(try clear c6);(try clear iT);(try clear nI);(try clear p6);(try clear c10);(try clear p11);(try clear q11);(try clear bKj);(try clear c14);(try clear jT);(try clear c16);(try clear l9);(try clear c17);(try clear l8);(try clear c18);(try clear oS);(try clear oR);(try clear c20);(try clear qT);(try clear p21);(try clear q21);(try clear bKi);(try clear bKs);(try clear c31);(try clear k9);(try clear oQ);(try clear eE);(try clear eD);(try clear gK);(try clear gJ);(try clear f3);(try clear fZ);(try clear wR);(try clear wQ);(try clear g8);(try clear g7);(try clear wN);(try clear wM);(try clear lS);(try clear lR);(try clear eB);(try clear d9);(try clear gI);(try clear gH);(try clear fW);(try clear fV);(try clear vW);(try clear vV);(try clear g6);(try clear g5);(try clear vS);(try clear vR);(try clear lK);(try clear lJ);(try clear lG);(try clear gG);(try clear tJ);(try clear p1);(try clear p11);(try clear aWy);(try clear aGt);(try clear p2);(try clear p21);(try clear p6);(try clear q1);(try clear q11);(try clear aWv);(try clear aGs);(try clear q2);(try clear q21);obtain⟨kZ,jM,eM,rfl,HA,HK3,dS,d3,iU,aA,HB⟩:=hrel;have fN:=(Kd.aAc dS.out).1;rw[fN]at dS;(try simp only[fN]);(try simp only[fN]at aA);(try simp only[fN]at d3);(try simp only[fN]at iU);have fM:=(Kd.aAc d3.out).1;rw[fM]at d3;(try simp only[fM]);(try simp only[fM]at aA);(try simp only[fM]at dS);(try simp only[fM]at iU)
      cases gk with
      | zero=>exact absurd HA.out (by simp[aB2.l2])
      | succ k3 =>
       have H:=HA.out;clear HA;simp only[aB2.l2]at H;by_cases c41:eM<(fF.length:Int);rotate_left
       ·rw[if_neg c41]at H;have oD:=zdN c41;(try(have k8:=oD;first|rw[fJ]at k8|rw[<-fJ]at k8));(try(have k7:=oD;first|rw[fN]at k7|rw[<-fN]at k7));(try(have k6:=oD;first|rw[fM]at k6|rw[<-fM]at k6));clear c41;have H':=zK_ H;clear H;go_wp2;(try simp only[<-fJ,<-fN,<-fM]);go_roundg k3;(case measure=>have:=HK1.out;have:=HK2.out;have:=HK3.out;omega);case rel=>exact⟨(kZ),(jM),H',⟨by have:=HK1.out;have:=HK2.out;have:=HK3.out;omega⟩,⟨by(try simp only[eO]);(try simp only[fJ]);(try simp only[fN]);(try simp only[fM]);(with_reducible repeat(first|apply Kd.aAu|apply Kd.aAt|apply Kd.aB5));exact Kd.aBh dS.out (λ_ hk=>hk.1)⟩,⟨by(try simp only[eO]);(try simp only[fJ]);(try simp only[fN]);(try simp only[fM]);(with_reducible repeat(first|apply Kd.aAu|apply Kd.aAt|apply Kd.aB5));exact Kd.aBh d3.out (λ_ hk=>hk.1)⟩,⟨aZp⟩,⟨zz1⟩⟩
       rw[if_pos c41]at H;have oD:=zdY c41;(try(have k8:=oD;first|rw[fJ]at k8|rw[<-fJ]at k8));(try(have k7:=oD;first|rw[fN]at k7|rw[<-fN]at k7));(try(have k6:=oD;first|rw[fM]at k6|rw[<-fM]at k6));clear c41;obtain⟨oN,bJi,H⟩:=zO_ H;(try dsimp only at H);have A42:=zK_ bJi;clear bJi;by_cases c43:oN=true
       ·subst c43;rw[if_pos rfl]at H;have H':=zK_ H;clear H;(go_wp2_with (first|((with_reducible refine aAa (f:=107) rfl ?_);refine aBg (some 71) rfl rfl Try.func107 (by kernel_rfl) rfl #[.slice aMu gC.length aMp,.int .i64 eM] rfl zz3 ?_;(with_reducible refine(aBb.calls k3 _ _ gC eM true _ ?side1 ?side2 A42.out).mono ?_);(case side1=>repeat(first|exact(Kd.aAc iU.out).2.2|(with_reducible refine Kd.aCr ?_ _)|(with_reducible refine Kd.aCq ?_ _)|(with_reducible refine Kd.aDf ?_)));(case side2=>exact(Kd.aAc iU.out).2.1);rintro e w' ⟨rfl,⟨nd,rfl⟩⟩;refine⟨_,rfl,?_⟩)));(try simp only[<-fN,<-fM]);go_roundg k3;(case measure=>have:=HK1.out;have:=HK2.out;have:=HK3.out;omega);case rel=>exact⟨(kZ),(jM),(wrap64 (eM+1)),zz5,H',⟨by have:=HK1.out;have:=HK2.out;have:=HK3.out;omega⟩,⟨by(try simp only[eO]);(try simp only[fJ]);(try simp only[fN]);(try simp only[fM]);(with_reducible repeat(first|apply Kd.aAu|apply Kd.aAt|apply Kd.aB5));exact dS.out⟩,⟨by(try simp only[eO]);(try simp only[fJ]);(try simp only[fN]);(try simp only[fM]);(with_reducible repeat(first|apply Kd.aAu|apply Kd.aAt|apply Kd.aB5));exact d3.out⟩,⟨by(try simp only[eO]);(try simp only[fJ]);(try simp only[fN]);(try simp only[fM]);(with_reducible repeat(first|apply Kd.aAu|apply Kd.aAt|apply Kd.aB5));exact iU.out⟩,⟨aZp⟩,⟨zz1⟩⟩
       replace c43:=zdB c43;subst c43;rw[if_neg (show ¬ (false=true) by decide)]at H;obtain⟨oA,bJg,H⟩:=zO_ H;(try dsimp only at H);have A44:=zK_ bJg;clear bJg;by_cases c45:0<=eM;rotate_left
       ·rw[if_neg c45]at H;exact absurd H (by simp)
       rw[if_pos c45]at H;have PA:=zdY c45;clear c45;by_cases c46:eM<(jM.length:Int);rotate_left
       ·rw[if_neg c46]at H;exact absurd H (by simp)
       rw[if_pos c46]at H;have uC:=zdY c46;(try(have qP:=uC;first|rw[fJ]at qP|rw[<-fJ]at qP));(try(have qO:=uC;first|rw[fN]at qO|rw[<-fN]at qO));(try(have qN:=uC;first|rw[fM]at qN|rw[<-fM]at qN));clear c46;obtain⟨xW,hy_⟩:∃ y_:List Int,y_=(jM.set (eM:Int).toNat (wrap64 ((rd jM eM)+1))):=⟨_,rfl⟩;(replace H:(aB2.l2 k3 a2 oA xW gC (fF.length:Int) (wrap64 (eM+1)) aE aC)=some (r1,r2):=zzY);have EF:=zK_ hy_;clear hy_;have H':=zK_ H;clear H;(go_wp2_with (first|((with_reducible refine aAa (f:=107) rfl ?_);refine aBg (some 71) rfl rfl Try.func107 (by kernel_rfl) rfl #[.slice aMu gC.length aMp,.int .i64 eM] rfl zz3 ?_;(with_reducible refine(aBb.calls k3 _ _ gC eM false _ ?side1 ?side2 A42.out).mono ?_);(case side1=>repeat(first|exact(Kd.aAc iU.out).2.2|(with_reducible refine Kd.aCr ?_ _)|(with_reducible refine Kd.aCq ?_ _)|(with_reducible refine Kd.aDf ?_)));(case side2=>exact(Kd.aAc iU.out).2.1);rintro e w' ⟨rfl,⟨nd,rfl⟩⟩;refine⟨_,rfl,?_⟩;(try(rw[aSn wr];generalize hq_:World.drewN wr _=wr;have n0_:aA1 (Kd.R (Kd.int .i64) 3 wr w.heap.size (λk_=>some k_≠(.slice aFx kZ.length aEq:Value).ownBlock/\some k_≠(.slice aY5 jM.length aPf:Value).ownBlock) (.slice aMu gC.length aMp) gC):=⟨by rw[<-hq_];exact(by(with_reducible repeat(first|apply Kd.aAu|apply Kd.aAt|apply Kd.aB5));exact iU.out)⟩;have n1_:aA1 (Kd.R (Kd.int .i64) 3 wr w.heap.size (λk_=>some k_≠(.slice aMu gC.length aMp:Value).ownBlock/\some k_≠(.slice aY5 jM.length aPf:Value).ownBlock) (.slice aFx kZ.length aEq) kZ):=⟨by rw[<-hq_];exact(by(with_reducible repeat(first|apply Kd.aAu|apply Kd.aAt|apply Kd.aB5));(first|exact Kd.aBh dS.out (λ_ hk=>⟨hk.2,hk.1⟩)|exact dS.out))⟩;have n2_:aA1 (Kd.R (Kd.int .i64) 3 wr w.heap.size (λk_=>some k_≠(.slice aMu gC.length aMp:Value).ownBlock/\some k_≠(.slice aFx kZ.length aEq:Value).ownBlock) (.slice aY5 jM.length aPf) jM):=⟨by rw[<-hq_];exact(by(with_reducible repeat(first|apply Kd.aAu|apply Kd.aAt|apply Kd.aB5));(first|exact Kd.aBh d3.out (λ_ hk=>⟨hk.2,hk.1⟩)|exact d3.out))⟩;have n3_:aA1 (wr.heap[aD]? = some (.cells #[.int .i64 aE,.slice aQ aC.length aG] 25 (0,0))):=⟨by rw[<-hq_];exact zz0⟩;have n4_:aA1 (Below w.heap.size w wr):=⟨by rw[<-hq_];exact zz1⟩;clear iU dS d3 aA HB hq_;have iU:=n0_;have dS:=n1_;have d3:=n2_;have aA:=n3_;have HB:=n4_;clear n0_ n1_ n2_ n3_ n4_));have lQ:=aCg aA;have lP:=aCf aA;have lI:=aA0 aA.out 0;have lH:=aA0 aA.out 1)|((with_reducible refine aAa (f:=105) rfl ?_);refine aBg (some 76) rfl rfl Try.func105 (by kernel_rfl) rfl #[.agg #[.int .i64 aE,.slice aQ aC.length aG],.slice aFx kZ.length aEq,.int .i64 eM,.int .i64 1] rfl zz3 ?_;(with_reducible refine(aCc.calls k3 aE _ _ aC (λk_=>some k_=(.slice aFx kZ.length aEq:Value).ownBlock) (.slice aFx kZ.length aEq) kZ eM 1 oA w _ ?side1 ?side2 ?side3 ?side4 A44.out).mono ?_);(case side1=>exact zz1);(case side2=>exact Kd.aLt aNe b7.out zz1 (λk_ hs_=>(λe_=>Kd.aCw dS.out k_ e_.symm) hs_));(case side3=>exact bY.out);(case side4=>exact Kd.aNo rfl dS.out);rintro e w49 ⟨rfl,hy0,hb,hkp⟩;refine⟨_,rfl,?_⟩;have n_:=zA5 (Kd.aYz rfl hy0 (λk_ e_=>dS.out.1 k_ e_)) (Kd.aBh (ok':=λk_=>some k_≠(.slice aFx kZ.length aEq:Value).ownBlock/\some k_≠(.slice aMu gC.length aMp:Value).ownBlock) (Kd.aQa (d3.out) hkp (by intro k_ hk_ hs_;first|exact hk_.1 hs_|exact hk_ hs_|exact hk_.1 hs_|exact hk_.2 hs_|exact hk_.1.1 hs_|exact hk_.1.2 hs_|exact hk_.2.1 hs_|exact hk_.2.2 hs_|exact hk_.1.1.1 hs_|exact hk_.1.1.2 hs_|exact hk_.1.2.1 hs_|exact hk_.1.2.2 hs_|exact hk_.2.2.1 hs_|exact hk_.2.2.2 hs_|exact hk_.1.1.1.1 hs_|exact hk_.1.1.1.2 hs_|exact hk_.1.1.1.1.2 hs_)) (by intro k_ hk_;first|exact⟨hk_.1.1,hk_.1.2⟩|(simp only[ne_eq,true_and,and_true]at hk_ ⊢;simp only[hk_,not_false_eq_true,and_self]))) (Kd.aBh (ok':=λk_=>some k_≠(.slice aFx kZ.length aEq:Value).ownBlock/\some k_≠(.slice aY5 jM.length aPf:Value).ownBlock) (Kd.aQa (iU.out) hkp (by intro k_ hk_ hs_;first|exact hk_.1 hs_|exact hk_ hs_|exact hk_.1 hs_|exact hk_.2 hs_|exact hk_.1.1 hs_|exact hk_.1.2 hs_|exact hk_.2.1 hs_|exact hk_.2.2 hs_|exact hk_.1.1.1 hs_|exact hk_.1.1.2 hs_|exact hk_.1.2.1 hs_|exact hk_.1.2.2 hs_|exact hk_.2.2.1 hs_|exact hk_.2.2.2 hs_|exact hk_.1.1.1.1 hs_|exact hk_.1.1.1.2 hs_|exact hk_.1.1.1.1.2 hs_)) (by intro k_ hk_;first|exact⟨hk_.1.1,hk_.1.2⟩|(simp only[ne_eq,true_and,and_true]at hk_ ⊢;simp only[hk_,not_false_eq_true,and_self]))) (aRi zz0 hkp (λhs_=>(λe_=>(Kd.aEd dS.out aA.out (by decide)) e_) hs_)) hb;clear dS d3 iU aA HB;obtain⟨dS,d3,iU,aA,HB⟩:=n_;clear hy0 hb hkp;have bGw:0<=(eM:Int):=zdT zz4;have bGv:eM<(jM.length:Int):=zdT zz4;obtain⟨PF,e120,u9⟩:=Kd.aCz (Kd.aAc d3.out).2.2 eM bGw bGv;cases e120;replace bGw:=eq_true bGw;replace bGv:=eq_true bGv;have p47:0<=(eM:Int):=zdT zz4;have q47:(eM:Int)<((jM.length:Int):Int):=zdT zz4;obtain⟨bAv,bG6,wU,DD,bKw,bN4,bIt⟩:=Kd.aHs d3.out (by omega);(first|cases wU|(injection wU with ea_ en_ ec_;(first|subst ea_|(injection ea_ with ea_;subst ea_));subst ec_;clear en_));have L8:=zK_ DD;have PY:=zK_ bIt;clear DD bKw bIt;(first|simp only[add_plain]at u9|skip);obtain⟨G4,KX⟩:=Kd.aEb 0 d3.out (eM:Int) p47 q47;replace p47:=eq_true p47;replace q47:=eq_true q47;obtain⟨bKa,bK2⟩:=Kd.aEb 0 d3.out (eM:Int) (zdT zz4) (zdT zz4);have yQ:=Kd.aIb d3.out (eM:Int) (wrap64 ((rd jM eM)+1)))|((with_reducible refine aEa (t:=3) (p:=82) rfl ?_);refine aE5 (t:=3) (p:=82) (v:=?vo_w51) (w1:=(w49.setCell ⟨bAv,(eM:Int).toNat,none⟩ (.int .i64 (wrap64 ((rd jM eM)+1))))) ?hg ?ho ?hn ?hr ?_;(case ho=>rfl);(case hg=>rfl);(case hn=>rfl);(case hr=>exact aDq);intro w51 hw;have hg:w49.grownBy w51 (some bAv):=(by rw[hw];exact yQ.2);have hp_:Kd.R (Kd.int .i64) 3 w51 w.heap.size (λk_=>some k_≠(.slice aFx kZ.length aEq:Value).ownBlock/\some k_≠(.slice aMu gC.length aMp:Value).ownBlock) (.slice (some ⟨bAv,0,none⟩) jM.length aPf) xW:=(by rw[hw,EF.out];exact yQ.1);clear yQ;have n_:=zA5 (Kd.aJs (v:=(.slice (some ⟨bAv,0,none⟩) jM.length aPf)) (v1:=(.slice (some ⟨bAv,0,none⟩) jM.length aPf)) (ok:=(λk_=>some k_≠(.slice aMu gC.length aMp:Value).ownBlock)) (by(with_reducible repeat(first|apply Kd.aAu|apply Kd.aAt|apply Kd.aB5));(first|exact Kd.aBh dS.out (λ_ hk=>⟨hk.2,hk.1⟩)|exact dS.out)) hg (.inl rfl)) hp_ (Kd.aJs (v:=(.slice (some ⟨bAv,0,none⟩) jM.length aPf)) (v1:=(.slice (some ⟨bAv,0,none⟩) jM.length aPf)) (ok:=(λk_=>some k_≠(.slice aFx kZ.length aEq:Value).ownBlock)) (by(with_reducible repeat(first|apply Kd.aAu|apply Kd.aAt|apply Kd.aB5));exact iU.out) hg (.inl rfl)) (aAx (g:=aD) (o:=.cells #[.int .i64 aE,.slice aQ aC.length aG] 25 (0,0)) zz0 hg (Kd.aEd d3.out aA.out (by decide))) (by rw[hw];exact aAi (HB.out) L8.out:Below w.heap.size w w51);clear dS d3 iU aA HB;obtain⟨dS,d3,iU,aA,HB⟩:=n_;clear hg hw hp_)));(try simp only[<-fN,<-fM]);go_roundg k3;(case measure=>have:=HK1.out;have:=HK2.out;have:=HK3.out;omega);case rel=>exact⟨(oA),(xW),(wrap64 (eM+1)),zz5,H',⟨by have:=HK1.out;have:=HK2.out;have:=HK3.out;omega⟩,⟨by(try simp only[eO]);(try simp only[fJ]);(try simp only[fN]);(try simp only[fM]);(with_reducible repeat(first|apply Kd.aAu|apply Kd.aAt|apply Kd.aB5));(first|exact Kd.aBh dS.out (λ_ hk=>⟨hk.2,hk.1⟩)|exact dS.out)⟩,⟨by(try simp only[eO]);(try simp only[fJ]);(try simp only[fN]);(try simp only[fM]);(with_reducible repeat(first|apply Kd.aAu|apply Kd.aAt|apply Kd.aB5));exact d3.out⟩,⟨by(try simp only[eO]);(try simp only[fJ]);(try simp only[fN]);(try simp only[fM]);(with_reducible repeat(first|apply Kd.aAu|apply Kd.aAt|apply Kd.aB5));exact iU.out⟩,⟨aZp⟩,⟨zz1⟩⟩
def aC8.l0:Nat->List Int->List Int->Int->Int->Option (List Int)
 | 0,_,_,_,_=>none
 | k+1,x1,x5,fK,eJ=>if eJ<fK then(if 0<=eJ then(if eJ<(x5.length:Int) then(if eJ<(x1.length:Int) then(aC8.l0 k x1 (x5.set (eJ:Int).toNat (wrap64 ((rd x5 eJ)+(rd x1 eJ)))) fK (wrap64 (eJ+1))) else(none)) else(none)) else(none)) else(some x5)
def aC8.f (k:Nat) (l0:List Int) (l1:List Int):Option (List Int):=(aCk.f l0).bind λbP=>(aC8.l0 k l1 bP (bP.length:Int) 0)
theorem aC8.aBa:∀ k,(∀ y0 y1 y2 y3,LeO (aC8.l0 k y0 y1 y2 y3) (aC8.l0 (k+1) y0 y1 y2 y3))
 | 0=>λ_ _ _ _ r h=>by simp[aC8.l0]at h
 | k+1=>by
  have ih0:=aC8.aBa k
  ·intro y0 y1 y2 y3
   unfold aC8.l0
   exact zm0
theorem aC8.mono:∀ a0 a1 k,LeO (aC8.f k a0 a1) (aC8.f (k+1) a0 a1):=by
 intro a0 a1 k;have ih0:=aC8.aBa k;unfold aC8.f;exact zm0
def aC8.T5:Bool×List (List Nat×List Nat):=(true,[([],[]),([],[]),([0,1],[0,1]),([2],[2]),([],[]),([],[]),([4,5],[4,5]),([6],[6]),([3,7],[3,7]),([0,1,0,1,2,3,4,5,6,7,8],[0,1]),([9,8,0,1,2,3,4,5,6,7,8],[8,9])])
def aC8.B5:List Nat:=[0,0,3,7,0,0,48,112,255,511,1023]
theorem aC8.bJu:aI2 .any (opsOf Try.f70 5)=aC8.T5:=by kernel_rfl
theorem aC8.bHe:aFh aC8.T5.2 aC8.B5=true:=by kernel_rfl
theorem aC8.calls (k:Nat) (A0:Option Addr) (c0:Nat) (l0:List Int) (A1:Option Addr) (c1:Nat) (l1:List Int) (r:List Int) (w:World) (hr0:Kd.C (Kd.int .i64) w A0 l0.length l0) (hc0:l0.length<=c0) (hr1:Kd.C (Kd.int .i64) w A1 l1.length l1) (hc1:l1.length<=c1) (h:aC8.f k l0 l1=some r) :
  Calls Try.prog 70 #[.slice A0 l0.length c0,.slice A1 l1.length c1] w λe w'=>∃ v0_:Value,e = .returned (v0_)/\Kd.R (Kd.int .i64) 3 w' w.heap.size (λ_=>True) v0_ r/\Below w.heap.size w w':=by
 have HR0:=zK_ hr0;have HC0:=zK_ hc0;clear hr0 hc0;have HR1:=zK_ hr1;have HC1:=zK_ hc1;clear hr1 hc1;have HB:=zK_ (Below.refl w.heap.size w);have H:((aCk.f l0).bind λbP=>(aC8.l0 k l1 bP (bP.length:Int) 0))=some r:=h;clear h;obtain⟨bP,A30,H⟩:=zO_ H;(try dsimp only at H);have A3:=zK_ A30;clear A30;have H':=zK_ H;clear H;go_enter Try.func70,Try.ntmps70;(go_wp2_with (first|((with_reducible refine aAa (f:=43) rfl ?_);refine aBg (some 8) rfl rfl Try.func43 (by kernel_rfl) rfl #[.slice A0 l0.length c0] rfl zz3 ?_;(with_reducible refine(aCk.calls _ _ l0 bP _ ?side1 ?side2 A3.out).mono ?_);(case side1=>exact aY9);(case side2=>exact HC0.out);rintro e w4 ⟨bGs,rfl,ho0,hb⟩;refine⟨_,rfl,?_⟩;have n_:=zA2 (Kd.aCm ho0 (aAj zz2)) (aA3 zz2 hb);clear HB;obtain⟨m6,HB⟩:=n_;clear ho0 hb;obtain⟨Ao5,co5,PV⟩:=Kd.aBe m6.out;subst PV)));(go_loopg [11] k (λkq v11 w'=>∃ (iV:List Int) (aT:Int),v11 = .int .i64 aT/\aA1 (aC8.l0 kq l1 iV (bP.length:Int) aT=some r)/\aA1 (kq<=k)/\aA1 (Kd.R (Kd.int .i64) 3 w' w.heap.size (λ_=>True) (.slice Ao5 bP.length co5) iV)/\aA1 (Below w.heap.size w w')));case atStart=>exact⟨(bP),(0),zz5,H',⟨Nat.le_refl _⟩,⟨by(with_reducible repeat(first|apply Kd.aAu|apply Kd.aAt|apply Kd.aB5));exact m6.out⟩,⟨zz2⟩⟩
 case round =>
  clear H';(try clear c1);(try clear p2);(try clear c4);obtain⟨iV,aT,rfl,HA,HK1,dF,HB⟩:=hrel;have kS:=(Kd.aAc dF.out).1;rw[kS]at dF;(try simp only[kS])
  cases gk with
  | zero=>exact absurd HA.out (by simp[aC8.l0])
  | succ k1 =>
   have H:=HA.out;clear HA;simp only[aC8.l0]at H;by_cases c6:aT<(bP.length:Int);rotate_left
   ·rw[if_neg c6]at H;have iT:=zdN c6;(try(have mU:=iT;first|rw[kS]at mU|rw[<-kS]at mU));clear c6;obtain rfl:=zdI H;go_wp2;go_ret;exact⟨_,zz9,by(with_reducible repeat(first|apply Kd.aAu|apply Kd.aAt|apply Kd.aB5));exact dF.out,zz2⟩
   rw[if_pos c6]at H;have iT:=zdY c6;(try(have mU:=iT;first|rw[kS]at mU|rw[<-kS]at mU));clear c6;by_cases c7:0<=aT;rotate_left
   ·rw[if_neg c7]at H;exact absurd H (by simp)
   rw[if_pos c7]at H;have jE:=zdY c7;clear c7;by_cases c8:aT<(iV.length:Int);rotate_left
   ·rw[if_neg c8]at H;exact absurd H (by simp)
   rw[if_pos c8]at H;have i3:=zdY c8;(try(have sN:=i3;first|rw[kS]at sN|rw[<-kS]at sN));clear c8;by_cases c9:aT<(l1.length:Int);rotate_left
   ·rw[if_neg c9]at H;exact absurd H (by simp)
   rw[if_pos c9]at H;have j6:=zdY c9;(try(have sM:=j6;first|rw[kS]at sM|rw[<-kS]at sM));clear c9;obtain⟨zC,hy_⟩:∃ y_:List Int,y_=(iV.set (aT:Int).toNat (wrap64 ((rd iV aT)+(rd l1 aT)))):=⟨_,rfl⟩;(replace H:(aC8.l0 k1 l1 zC (bP.length:Int) (wrap64 (aT+1)))=some r:=zzY);have EJ:=zK_ hy_;clear hy_;have H':=zK_ H;clear H;(try go_wp2);have n_:=zA2 (Kd.aB5 dF.out) (aB3 HB.out);clear dF HB;obtain⟨dF,HB⟩:=n_;have aJi:0<=(aT:Int):=zdT zz4;have aJg:aT<(iV.length:Int):=zdT zz4;obtain⟨i5,aSm,dQ⟩:=Kd.aCz (Kd.aAc dF.out).2.2 aT aJi aJg;cases aSm;replace aJi:=eq_true aJi;replace aJg:=eq_true aJg;have aJ7:0<=(aT:Int):=zdT zz4;have aJ6:aT<(l1.length:Int):=zdT zz4;obtain⟨dO,aSl,bZ⟩:=Kd.aCz HR1.out aT aJ7 aJ6;have hw105_0:=bZ;cases aSl;replace bZ:=(HB.out.cell (World.block_lt_of_cell? w _ bZ)).trans bZ;replace aJ7:=eq_true aJ7;replace aJ6:=eq_true aJ6;have p10:0<=(aT:Int):=zdT zz4;have q10:(aT:Int)<((iV.length:Int):Int):=zdT zz4;obtain⟨bKv,bIp,uA,DJ,bL2,bNa,bIz⟩:=Kd.aHs dF.out (by omega);(first|cases uA|(injection uA with ea_ en_ ec_;(first|subst ea_|(injection ea_ with ea_;subst ea_));subst ec_;clear en_));have MC:=zK_ DJ;have L7:=zK_ bIz;clear DJ bL2 bIz;(first|simp only[add_plain]at dQ|skip);obtain⟨yD,yG⟩:=Kd.aEb 0 dF.out (aT:Int) p10 q10;replace p10:=eq_true p10;replace q10:=eq_true q10;have yZ:=Kd.aZ0 dF.out (aT:Int) (wrap64 ((rd iV aT)+(rd l1 aT)));rw[<-EJ.out]at yZ;have ET:=zK_ yZ;clear yZ;refine aFy (n:=11) (S:=λw'=>w'.cell? ⟨bKv,(aT).toNat,none⟩=some (.int .i64 (rd iV aT))/\w'.cell? (dO.add (aT).toNat)=some (.int .i64 (rd l1 aT))) (ds:=[10]) (zM 11 0) (by kernel_rfl) rfl rfl ⟨dQ,((HB.out.cell (World.block_lt_of_cell? w _ hw105_0)).trans hw105_0)⟩ (λhHeld=>?_);refine aE7 aC8.bJu aC8.bHe (λHT_ HW_=>?_);generalize wr.drew=w11 at dF HB L7 ET yG dQ bZ yD hHeld ⊢;refine zQ 0 14 (zM 11 1) ?_
   refine zQ 1 15 (zM 11 3) ?_
   refine zQ 2 16 (zM 11 7) ?_
   refine zQ 4 18 (zM 11 23) ?_
   refine zQ 5 19 (zM 11 55) ?_
   refine zQ 6 20 (zM 11 119) ?_
   refine aEc (i:=3) (N:=some 17) (v:=?_) (a':=?_) (zM 11 127) rfl rfl (aCp HT_.out HW_.out (by kernel_rfl)) (λ_ _ _ h=>h) (Or.inl ⟨by rfl,?_⟩) hHeld ?_ ?_;rotate_left
   ·rintro w' ⟨s0,s1⟩;exact zzT
   rotate_left
   ·exact zzS
   refine aEc (i:=7) (N:=some 21) (v:=?_) (a':=?_) (zM 11 255) rfl rfl (aCp HT_.out HW_.out (by kernel_rfl)) (λ_ _ _ h=>h) (Or.inl ⟨by rfl,?_⟩) hHeld ?_ ?_;rotate_left
   ·rintro w' ⟨s0,s1⟩;exact zzT
   rotate_left
   ·exact zzS
   refine zQ 8 22 (zM 11 511) ?_
   refine zQ 9 23 (zM 11 1023) ?_
   refine bDq (i:=10) (N:=none) (zM 11 2047) rfl rfl (aEs HT_.out (by kernel_rfl)) (by decide) (λK hK=>?_);refine aWk (w1:=?_) (by rfl) rfl ?_ ?_;rotate_left
   ·go_simp;rfl
   refine hK.out _ _ ?_;clear hK K;refine aI3 (aF7 HT_.out (by kernel_rfl)) ?_;(try go_wp2);(try simp only[<-kS]);go_roundg k1;(case measure=>have:=HK1.out;omega);case rel=>exact⟨(zC),(wrap64 (aT+1)),zz5,H',⟨aFc⟩,⟨by(try simp only[kS]);(with_reducible repeat(first|apply Kd.aAu|apply Kd.aAt|apply Kd.aB5));exact ET.out⟩,⟨by repeat(first|(with_reducible first|exact HB.out|apply aB6|apply aAv|apply aB3|refine aAi ?_ MC.out)|exact HB.out)⟩⟩
def aAk.j0:Nat->List Int->List Int->Bool->Int->List (S73)->Option (List Int×Bool)
 | 0,_,_,_,_,_=>none
 | k+1,x1,x2,oZ,aU,aM=>if oZ=true then(some (([]:List Int),false)) else((aC8.f k x1 x2).bind λgV=>((aB2.f k aU aM gV 0).bind λmX=>(some (mX.1,true))))
def aAk.f (k:Nat) (aE:Int) (aC:List (S73)) (l1:List Int) (l2:List Int):Option (List Int×Bool):=(aBi.f k aE aC l1).bind λaX=>(if aX=true then((aBi.f k aE aC l2).bind λbE=>(aAk.j0 k l1 l2 (!bE) aE aC)) else(aAk.j0 k l1 l2 true aE aC))
theorem aAk.aBa:∀ k,(∀ y0 y1 y2 y3 y4,LeO (aAk.j0 k y0 y1 y2 y3 y4) (aAk.j0 (k+1) y0 y1 y2 y3 y4))
 | 0=>λ_ _ _ _ _ r h=>by simp[aAk.j0]at h
 | k+1=>by
  have ih0:=aAk.aBa k
  ·intro y0 y1 y2 y3 y4
   unfold aAk.j0
   exact bI3
theorem aAk.mono:∀ a0 a1 a2 a3 k,LeO (aAk.f k a0 a1 a2 a3) (aAk.f (k+1) a0 a1 a2 a3):=by
 intro a0 a1 a2 a3 k;have ih0:=aAk.aBa k;unfold aAk.f;exact bI3
def aAk.T3:Bool×List (List Nat×List Nat):=(true,[([],[]),([],[]),([],[]),([1,2],[1,2]),([0,3,3],[0,3]),([4],[4]),([5],[5]),([5],[5]),([6,4,0,1,2,3,4,5,6],[6]),([7,8,0,1,2,3,4,5,6,7,8],[7])])
def aAk.B3:List Nat:=[0,0,0,6,15,31,63,63,127,511]
theorem aAk.bD5:aI2 .any (opsOf Try.f28 3)=aAk.T3:=by kernel_rfl
theorem aAk.aV8:aFh aAk.T3.2 aAk.B3=true:=by kernel_rfl
theorem aAk.calls (k:Nat) (aE:Int) (aQ:Option Addr) (aG:Nat) (aC:List (S73)) (A1:Option Addr) (c1:Nat) (l1:List Int) (A2:Option Addr) (c2:Nat) (l2:List Int) (r1:List Int) (r2:Bool) (w:World) (hr0_1:Kd.C k73 w aQ aC.length aC) (hc0_1:aC.length<=aG) (hr1:Kd.C (Kd.int .i64) w A1 l1.length l1) (hc1:l1.length<=c1) (hr2:Kd.C (Kd.int .i64) w A2 l2.length l2) (hc2:l2.length<=c2) (h:aAk.f k aE aC l1 l2=some (r1,r2)) :
  Calls Try.prog 28 #[.agg #[.int .i64 aE,.slice aQ aC.length aG],.slice A1 l1.length c1,.slice A2 l2.length c2] w λe w'=>∃ v0_:Value,e = .returned (.tuple #[v0_,.bool r2])/\Kd.R (Kd.int .i64) 3 w' w.heap.size (λ_=>True) v0_ r1/\Below w.heap.size w w':=by
 have aIh:=Try.underlying25;have b7:=zK_ hr0_1;have bY:=zK_ hc0_1;clear hr0_1 hc0_1;have HR1:=zK_ hr1;have HC1:=zK_ hc1;clear hr1 hc1;have HR2:=zK_ hr2;have HC2:=zK_ hc2;clear hr2 hc2;have HB:=zK_ (Below.refl w.heap.size w);have H:((aBi.f k aE aC l1).bind λaX=>(if aX=true then((aBi.f k aE aC l2).bind λbE=>(aAk.j0 k l1 l2 (!bE) aE aC)) else(aAk.j0 k l1 l2 true aE aC)))=some (r1,r2):=h;clear h;have HC4:=zK_ H;clear H;go_enter Try.func28,Try.ntmps28;(go_upto_region 1 with (first|((with_reducible refine aAw (N:=3) rfl ?_);refine aAq ?hg (N:=3) ?hd (cs:=#[.int .i64 aE,.slice aQ aC.length aG]) (t:=25) ?hr ?_;(case hd=>rfl);(case hg=>rfl);(case hr=>exact aDq);intro aD hg w5 hbox hb;have n_:=zA4 (aA3 zz2 hb) hbox (aE1:w.heap.size<=aD) (aE1:w.heap.size<=aD);clear HB;obtain⟨HB,aA,aDt,aDe⟩:=n_;clear hb hbox hg)));(try simp only[Act.put,List.setIfInBounds_toArray,List.set_cons_zero,List.set_cons_succ]);go_cut [19] (λv19 wc=>∃ (kq:Nat) (rT:Bool),v19 = .bool rT/\aA1 (aAk.j0 kq l1 l2 rT aE aC=some (r1,r2))/\aA1 (kq<=k)/\aA1 (wc.heap[aD]? = some (.cells #[.int .i64 aE,(.slice aQ aC.length aG)] 25 (0,0)))/\aA1 (Below w.heap.size w wc))
 case first =>
  have H:=HC4.out;clear HC4;obtain⟨aX,A60,H⟩:=zO_ H;(try dsimp only at H);have A6:=zK_ A60;clear A60;by_cases c7:aX=true;rotate_left
  ·replace c7:=zdB c7;subst c7;rw[if_neg (show ¬ (false=true) by decide)]at H;have H':=zK_ H;clear H;have pS:=aCg aA;have pR:=aCf aA;have pG:=aA0 aA.out 0;have pF:=aA0 aA.out 1;(go_wp2_with (first|((with_reducible refine aAa (f:=68) rfl ?_);refine aBg (some 12) rfl rfl Try.func68 (by kernel_rfl) rfl #[.agg #[.int .i64 aE,.slice aQ aC.length aG],.slice A1 l1.length c1] rfl zz3 ?_;(with_reducible refine(aBi.calls k aE _ _ aC _ _ l1 false _ ?side1 ?side2 ?side3 ?side4 A6.out).mono ?_);(case side1=>exact zz7);(case side2=>exact bY.out);(case side3=>exact aP9);(case side4=>exact HC1.out);rintro e w14 ⟨rfl,hb⟩;refine⟨_,rfl,?_⟩;have n_:=zA2 (aA4 (g:=aD) (o:=.cells #[.int .i64 aE,.slice aQ aC.length aG] 25 (0,0)) zz0 hb) (aA3 zz1 hb);clear aA HB;obtain⟨aA,HB⟩:=n_;clear hb)));(go_meet);case rel=>exact⟨_,(true),zz5,H',⟨by first|omega|exact Nat.le_refl _⟩,⟨zz0⟩,⟨zz1⟩⟩
  subst c7;rw[if_pos rfl]at H;obtain⟨bE,A80,H⟩:=zO_ H;(try dsimp only at H);have A8:=zK_ A80;clear A80;have H':=zK_ H;clear H;have iZ:=aCg aA;have iY:=aCf aA;have iX:=aA0 aA.out 0;have iW:=aA0 aA.out 1;(go_wp2_with (first|((with_reducible refine aAa (f:=68) rfl ?_);refine aBg (some 12) rfl rfl Try.func68 (by kernel_rfl) rfl #[.agg #[.int .i64 aE,.slice aQ aC.length aG],.slice A1 l1.length c1] rfl zz3 ?_;(with_reducible refine(aBi.calls k aE _ _ aC _ _ l1 true _ ?side1 ?side2 ?side3 ?side4 A6.out).mono ?_);(case side1=>exact zz7);(case side2=>exact bY.out);(case side3=>exact aP9);(case side4=>exact HC1.out);rintro e w10 ⟨rfl,hb⟩;refine⟨_,rfl,?_⟩;have n_:=zA2 (aA4 (g:=aD) (o:=.cells #[.int .i64 aE,.slice aQ aC.length aG] 25 (0,0)) zz0 hb) (aA3 zz1 hb);clear aA HB;obtain⟨aA,HB⟩:=n_;clear hb;have lW:=aCg aA;have lV:=aCf aA;have lO:=aA0 aA.out 0;have lN:=aA0 aA.out 1)|(go_at_call 68;(with_reducible refine(aBi.calls k aE _ _ aC _ _ l2 bE _ ?side1 ?side2 ?side3 ?side4 A8.out).mono ?_);(case side1=>exact zz7);(case side2=>exact bY.out);(case side3=>repeat(first|exact(Kd.aDj HR2.out HB.out)|(with_reducible refine Kd.aCr ?_ _)|(with_reducible refine Kd.aCq ?_ _)|(with_reducible refine Kd.aDf ?_)));(case side4=>exact HC2.out);rintro e w12 ⟨rfl,hb⟩;have n_:=zA2 (aA4 (g:=aD) (o:=.cells #[.int .i64 aE,.slice aQ aC.length aG] 25 (0,0)) zz0 hb) (aA3 zz1 hb);clear aA HB;obtain⟨aA,HB⟩:=n_;(try clear hb);(try clear hb2);(try clear hk);(try clear hi))));(go_meet);case rel=>exact⟨_,(!bE),zz5,H',⟨by first|omega|exact Nat.le_refl _⟩,⟨zz0⟩,⟨zz1⟩⟩
 case rest =>
  clear HC4;(try clear c1);(try clear c2);(try clear p2);(try clear c6);(try clear c7);(try clear lW);(try clear lV);(try clear pS);(try clear pR);(try clear iZ);(try clear iY);(try clear lO);(try clear lN);(try clear pG);(try clear pF);(try clear iX);(try clear iW);obtain⟨kq,rT,rfl,HA,HJ3,aA,HB⟩:=hcut
  cases kq with
  | zero=>exact absurd HA.out (by simp[aAk.j0])
  | succ kj3 =>
   have H:=HA.out;clear HA;simp only[aAk.j0]at H;by_cases c15:rT=true
   ·subst c15;rw[if_pos rfl]at H;simp only[Option.some.injEq,Prod.mk.injEq]at H;obtain⟨rfl,rfl⟩:=H;go_wp2;(go_ret2);exact⟨_,zz9,aW2,zz1⟩
   replace c15:=zdB c15;subst c15;rw[if_neg (show ¬ (false=true) by decide)]at H;obtain⟨gV,bFr,H⟩:=zO_ H;(try dsimp only at H);have A16:=zK_ bFr;clear bFr;replace H:=zO_ H;obtain⟨⟨gW,oC⟩,bJo,H⟩:=H;dsimp only at H;have A17:=zK_ bJo;clear bJo;simp only[Option.some.injEq,Prod.mk.injEq]at H;obtain⟨rfl,rfl⟩:=H;(try go_wp2);have n_:=zA2 (aA9 aA.out) (aB3 HB.out);clear aA HB;obtain⟨aA,HB⟩:=n_;refine aFy (n:=10) (S:=λw'=>w'.cell? ⟨aD,0,none⟩=some (.int .i64 aE)/\w'.cell? ⟨aD,1,none⟩=some (.slice aQ aC.length aG)) (ds:=[]) (zM 10 0) (by kernel_rfl) rfl rfl ⟨(aAs aA.out 0).trans rfl,(aAs aA.out 1).trans rfl⟩ (λhHeld=>?_);refine aE7 aAk.bD5 aAk.aV8 (λHT_ HW_=>?_);generalize wc.drew=w18 at aA HB hHeld ⊢;refine zQ 1 22 (zM 10 2) ?_
   refine zQ 2 23 (zM 10 6) ?_
   refine aEc (i:=0) (N:=some 21) (v:=?_) (a':=?_) (zM 10 7) rfl rfl (aCp HT_.out HW_.out (by kernel_rfl)) (λ_ _ _ h=>h) (Or.inl ⟨by rfl,?_⟩) hHeld ?_ ?_;rotate_left
   ·rintro w' ⟨s0,s1⟩;exact zzT
   rotate_left
   ·exact zzS
   refine aLu (i:=3) (N:=some 24) (zM 10 15) rfl rfl (aEs HT_.out (by kernel_rfl)) (by decide) (λK hK=>?_);refine aGd Try.func70 (by kernel_rfl) rfl #[.slice A1 l1.length c1,.slice A2 l2.length c2] (by rfl) rfl rfl zz3 ?_;(with_reducible refine(aC8.calls kj3 _ _ l1 _ _ l2 gV _ ?side1 ?side2 ?side3 ?side4 A16.out).mono ?_);(case side1=>exact aP9);(case side2=>exact HC1.out);(case side3=>repeat(first|exact(Kd.aDj HR2.out HB.out)|(with_reducible refine Kd.aCr ?_ _)|(with_reducible refine Kd.aCq ?_ _)|(with_reducible refine Kd.aDf ?_)));(case side4=>exact HC2.out);rintro e w19 ⟨v105,rfl,ho0,hb⟩;refine⟨_,rfl,?_⟩;have n_:=zA3 (Kd.aCm ho0 (aAj zz1)) (aA4 (g:=aD) (o:=.cells #[.int .i64 aE,.slice aQ aC.length aG] 25 (0,0)) zz0 hb) (aA3 zz1 hb);clear aA HB;obtain⟨mB,aA,HB⟩:=n_;clear ho0 hb;obtain⟨bLw,bLb,DN⟩:=Kd.aBe mB.out;(first|subst DN|(injection DN with f1_ f2_ f3_;have f4_:=f1_.symm;have f5_:=f3_.symm;clear f1_ f2_ f3_;subst f4_;subst f5_));refine hK.out _ _ ⟨(aAs aA.out 0).trans rfl,(aAs aA.out 1).trans rfl⟩ (λhHeld=>?_);clear hK K;refine aEm (a':=?_) ?_ ?_;rotate_left
   ·show Act.put _ (some 24) _=_;exact zzS
   refine aLu (i:=4) (N:=some 25) (zM 10 31) rfl rfl (aEs HT_.out (by kernel_rfl)) (by decide) (λK hK=>?_);refine aGd Try.func69 (by kernel_rfl) rfl #[.agg #[.int .i64 aE,.slice aQ aC.length aG],.slice bLw gV.length bLb,.int .i64 0] (by rfl) rfl rfl zz3 ?_;(with_reducible refine(aB2.calls kj3 aE _ _ aC _ _ gV 0 gW oC _ ?side1 ?side2 ?side3 ?side4 A17.out).mono ?_);(case side1=>exact zz7);(case side2=>exact bY.out);(case side3=>repeat(first|exact(Kd.aAc mB.out).2.2|(with_reducible refine Kd.aCr ?_ _)|(with_reducible refine Kd.aCq ?_ _)|(with_reducible refine Kd.aDf ?_)));(case side4=>exact(Kd.aAc mB.out).2.1);rintro e w21 ⟨bI7,bGq,rfl,ho0,ho1,hb⟩;refine⟨_,rfl,?_⟩;have n_:=zA5 (Kd.aBh (Kd.aYy (Kd.aYy (Kd.bHm (by(with_reducible repeat(first|apply Kd.aAu|apply Kd.aAt|apply Kd.aB5));exact mB.out) hb) (Kd.aCw ho0)) (Kd.aCw ho1)) (λ_ h_=>h_.1)) (Kd.aCm (Kd.aD2 ho0 (Kd.aEy (by(with_reducible repeat(first|apply Kd.aAu|apply Kd.aAt|apply Kd.aB5));exact mB.out))) (aAj zz1)) (Kd.aCm (Kd.aD2 ho1 (Kd.aEy (by(with_reducible repeat(first|apply Kd.aAu|apply Kd.aAt|apply Kd.aB5));exact mB.out))) (aAj zz1)) (aA4 (g:=aD) (o:=.cells #[.int .i64 aE,.slice aQ aC.length aG] 25 (0,0)) zz0 hb) (aA3 zz1 hb);clear mB aA HB;obtain⟨mB,rB,nG,aA,HB⟩:=n_;clear ho0 ho1 hb;refine hK.out _ _ ⟨(aAs aA.out 0).trans rfl,(aAs aA.out 1).trans rfl⟩ (λhHeld=>?_);clear hK K;refine aEm (a':=?_) ?_ ?_;rotate_left
   ·show Act.put _ (some 25) _=_;exact zzS
   refine zQ 5 20 (zM 10 63) ?_
   refine zQ 6 26 (zM 10 127) ?_
   refine zQ 7 27 (zM 10 255) ?_
   refine zQ 8 8 (zM 10 511) ?_
   refine zQ 9 9 (zM 10 1023) ?_
   refine aI3 (aF7 HT_.out (by kernel_rfl)) ?_;(try go_wp2);(go_ret2);exact⟨_,zz9,by(with_reducible repeat(first|apply Kd.aAu|apply Kd.aAt|apply Kd.aB5));exact Kd.aBh rB.out (λ_ hk=>trivial),zz1⟩
def aDl.f (aE:Int) (aC:List (S73)) (a1:Int):Option (Bool):=(aC6.f aE aC).bind λaX=>(if aX=true then((aDs.f a1 0 (wrap64 (aE-1))).bind λbE=>(some bE)) else(some false))
theorem aDl.calls (aE:Int) (aQ:Option Addr) (aG:Nat) (aC:List (S73)) (a1:Int) (r:Bool) (w:World) (hr0_1:Kd.C k73 w aQ aC.length aC) (hc0_1:aC.length<=aG) (h:aDl.f aE aC a1=some r) :
  Calls Try.prog 37 #[.agg #[.int .i64 aE,.slice aQ aC.length aG],.int .i64 a1] w λe w'=>e = .returned (.bool r)/\Below w.heap.size w w':=by
 have aIh:=Try.underlying25;have b7:=zK_ hr0_1;have bY:=zK_ hc0_1;clear hr0_1 hc0_1;have HB:=zK_ (Below.refl w.heap.size w);have H:((aC6.f aE aC).bind λaX=>(if aX=true then((aDs.f a1 0 (wrap64 (aE-1))).bind λbE=>(some bE)) else(some false)))=some r:=h;clear h;obtain⟨aX,A30,H⟩:=zO_ H;(try dsimp only at H);have A3:=zK_ A30;clear A30;by_cases c4:aX=true;rotate_left
 ·replace c4:=zdB c4;subst c4;rw[if_neg (show ¬ (false=true) by decide)]at H;obtain rfl:=zdI H;go_enter Try.func37,Try.ntmps37;(go_wp2_with (first|((with_reducible refine aAw (N:=2) rfl ?_);refine aAq ?hg (N:=2) ?hd (cs:=#[.int .i64 aE,.slice aQ aC.length aG]) (t:=25) ?hr ?_;(case hd=>rfl);(case hg=>rfl);(case hr=>exact aDq);intro aD hg w10 hbox hb;have n_:=zA4 (aA3 zz2 hb) hbox (aE1:w.heap.size<=aD) (aE1:w.heap.size<=aD);clear HB;obtain⟨HB,aA,aDt,aDe⟩:=n_;clear hb hbox hg;have lW:=aCg aA;have lV:=aCf aA;have lO:=aA0 aA.out 0;have lN:=aA0 aA.out 1)|((with_reducible refine aAa (f:=41) rfl ?_);refine aBg (some 6) rfl rfl Try.func41 (by kernel_rfl) rfl #[.agg #[.int .i64 aE,.slice aQ aC.length aG]] rfl zz3 ?_;(with_reducible refine(aC6.calls aE _ _ aC false _ ?side1 ?side2 A3.out).mono ?_);(case side1=>exact zz7);(case side2=>exact bY.out);rintro e w12 ⟨rfl,hb⟩;refine⟨_,rfl,?_⟩;have n_:=zA2 (aA4 (g:=aD) (o:=.cells #[.int .i64 aE,.slice aQ aC.length aG] 25 (0,0)) zz0 hb) (aA3 zz1 hb);clear aA HB;obtain⟨aA,HB⟩:=n_;clear hb)));go_ret;exact⟨zz9,zz1⟩
 subst c4;rw[if_pos rfl]at H;obtain⟨bE,A50,H⟩:=zO_ H;(try dsimp only at H);have A5:=zK_ A50;clear A50;obtain rfl:=zdI H;go_enter Try.func37,Try.ntmps37;(go_wp2_with (first|((with_reducible refine aAw (N:=2) rfl ?_);refine aAq ?hg (N:=2) ?hd (cs:=#[.int .i64 aE,.slice aQ aC.length aG]) (t:=25) ?hr ?_;(case hd=>rfl);(case hg=>rfl);(case hr=>exact aDq);intro aD hg w6 hbox hb;have n_:=zA4 (aA3 zz2 hb) hbox (aE1:w.heap.size<=aD) (aE1:w.heap.size<=aD);clear HB;obtain⟨HB,aA,aDt,aDe⟩:=n_;clear hb hbox hg;have iH:=aCg aA;have iG:=aCf aA;have iF:=aA0 aA.out 0;have iE:=aA0 aA.out 1)|((with_reducible refine aAa (f:=41) rfl ?_);refine aBg (some 6) rfl rfl Try.func41 (by kernel_rfl) rfl #[.agg #[.int .i64 aE,.slice aQ aC.length aG]] rfl zz3 ?_;(with_reducible refine(aC6.calls aE _ _ aC true _ ?side1 ?side2 A3.out).mono ?_);(case side1=>exact zz7);(case side2=>exact bY.out);rintro e w8 ⟨rfl,hb⟩;refine⟨_,rfl,?_⟩;have n_:=zA2 (aA4 (g:=aD) (o:=.cells #[.int .i64 aE,.slice aQ aC.length aG] 25 (0,0)) zz0 hb) (aA3 zz1 hb);clear aA HB;obtain⟨aA,HB⟩:=n_;clear hb;have iZ:=aCg aA;have iY:=aCf aA;have iX:=aA0 aA.out 0;have iW:=aA0 aA.out 1)|(go_at_call 79;(with_reducible refine(aDs.calls a1 0 (wrap64 (aE-1)) bE _ A5.out).mono ?_);rintro e w' ⟨rfl,⟨nd,rfl⟩⟩)));go_ret;exact⟨zz9,zz1⟩
def aD5.f (k:Nat) (aE:Int) (aC:List (S73)) (l1:List Int) (a2:Int):Option (List Int×Bool):=(aC7.f k aE aC l1).bind λaX=>(if aX=true then((aDl.f aE aC a2).bind λbE=>(if bE=true then((aB2.f k aE aC l1 a2).bind λlB=>(some (lB.1,true))) else(some (([]:List Int),false)))) else(some (([]:List Int),false)))
theorem aD5.mono:∀ a0 a1 a2 a3 k,LeO (aD5.f k a0 a1 a2 a3) (aD5.f (k+1) a0 a1 a2 a3):=by
 intro a0 a1 a2 a3 k;unfold aD5.f;repeat' first|(with_reducible apply aC7.mono)|(with_reducible apply aB2.mono)|(with_reducible exact LeO.refl _)|(with_reducible exact LeO.none _)|(with_reducible refine LeO.ite ?_ ?_)|(with_reducible refine LeO.bind ?_ (λ_=>?_))|apply aC7.mono|apply aB2.mono|exact LeO.none _|refine LeO.ite ?_ ?_|refine LeO.bind ?_ (λ_=>?_)
theorem aD5.calls (k:Nat) (aE:Int) (aQ:Option Addr) (aG:Nat) (aC:List (S73)) (A1:Option Addr) (c1:Nat) (l1:List Int) (a2:Int) (r1:List Int) (r2:Bool) (w:World) (hr0_1:Kd.C k73 w aQ aC.length aC) (hc0_1:aC.length<=aG) (hr1:Kd.C (Kd.int .i64) w A1 l1.length l1) (hc1:l1.length<=c1) (h:aD5.f k aE aC l1 a2=some (r1,r2)) :
  Calls Try.prog 73 #[.agg #[.int .i64 aE,.slice aQ aC.length aG],.slice A1 l1.length c1,.int .i64 a2] w λe w'=>∃ v0_:Value,e = .returned (.tuple #[v0_,.bool r2])/\Kd.R (Kd.int .i64) 3 w' w.heap.size (λ_=>True) v0_ r1/\Below w.heap.size w w':=by
 have aIh:=Try.underlying25;have b7:=zK_ hr0_1;have bY:=zK_ hc0_1;clear hr0_1 hc0_1;have HR1:=zK_ hr1;have HC1:=zK_ hc1;clear hr1 hc1;have HB:=zK_ (Below.refl w.heap.size w);have H:((aC7.f k aE aC l1).bind λaX=>(if aX=true then((aDl.f aE aC a2).bind λbE=>(if bE=true then((aB2.f k aE aC l1 a2).bind λlB=>(some (lB.1,true))) else(some (([]:List Int),false)))) else(some (([]:List Int),false))))=some (r1,r2):=h;clear h;obtain⟨aX,A40,H⟩:=zO_ H;(try dsimp only at H);have A4:=zK_ A40;clear A40;by_cases c5:aX=true;rotate_left
 ·replace c5:=zdB c5;subst c5;rw[if_neg (show ¬ (false=true) by decide)]at H;simp only[Option.some.injEq,Prod.mk.injEq]at H;obtain⟨rfl,rfl⟩:=H;go_enter Try.func73,Try.ntmps73;(go_wp2_with (first|((with_reducible refine aAw (N:=3) rfl ?_);refine aAq ?hg (N:=3) ?hd (cs:=#[.int .i64 aE,.slice aQ aC.length aG]) (t:=25) ?hr ?_;(case hd=>rfl);(case hg=>rfl);(case hr=>exact aDq);intro aD hg w21 hbox hb;have n_:=zA4 (aA3 zz2 hb) hbox (aE1:w.heap.size<=aD) (aE1:w.heap.size<=aD);clear HB;obtain⟨HB,aA,aDt,aDe⟩:=n_;clear hb hbox hg;have lU:=aCg aA;have lT:=aCf aA;have lM:=aA0 aA.out 0;have lL:=aA0 aA.out 1)|((with_reducible refine aAa (f:=103) rfl ?_);refine aBg (some 12) rfl rfl Try.func103 (by kernel_rfl) rfl #[.agg #[.int .i64 aE,.slice aQ aC.length aG],.slice A1 l1.length c1] rfl zz3 ?_;(with_reducible refine(aC7.calls k aE _ _ aC _ _ l1 false _ ?side1 ?side2 ?side3 ?side4 A4.out).mono ?_);(case side1=>exact zz7);(case side2=>exact bY.out);(case side3=>exact aP9);(case side4=>exact HC1.out);rintro e w23 ⟨rfl,hb⟩;refine⟨_,rfl,?_⟩;have n_:=zA2 (aA4 (g:=aD) (o:=.cells #[.int .i64 aE,.slice aQ aC.length aG] 25 (0,0)) zz0 hb) (aA3 zz1 hb);clear aA HB;obtain⟨aA,HB⟩:=n_;clear hb)));(go_ret2);exact⟨_,zz9,aW2,zz1⟩
 subst c5;rw[if_pos rfl]at H;obtain⟨bE,A60,H⟩:=zO_ H;(try dsimp only at H);have A6:=zK_ A60;clear A60;by_cases c7:bE=true;rotate_left
 ·replace c7:=zdB c7;subst c7;rw[if_neg (show ¬ (false=true) by decide)]at H;simp only[Option.some.injEq,Prod.mk.injEq]at H;obtain⟨rfl,rfl⟩:=H;go_enter Try.func73,Try.ntmps73;(go_wp2_with (first|((with_reducible refine aAw (N:=3) rfl ?_);refine aAq ?hg (N:=3) ?hd (cs:=#[.int .i64 aE,.slice aQ aC.length aG]) (t:=25) ?hr ?_;(case hd=>rfl);(case hg=>rfl);(case hr=>exact aDq);intro aD hg w16 hbox hb;have n_:=zA4 (aA3 zz2 hb) hbox (aE1:w.heap.size<=aD) (aE1:w.heap.size<=aD);clear HB;obtain⟨HB,aA,aDt,aDe⟩:=n_;clear hb hbox hg;have kN:=aCg aA;have kM:=aCf aA;have kJ:=aA0 aA.out 0;have kI:=aA0 aA.out 1)|((with_reducible refine aAa (f:=103) rfl ?_);refine aBg (some 12) rfl rfl Try.func103 (by kernel_rfl) rfl #[.agg #[.int .i64 aE,.slice aQ aC.length aG],.slice A1 l1.length c1] rfl zz3 ?_;(with_reducible refine(aC7.calls k aE _ _ aC _ _ l1 true _ ?side1 ?side2 ?side3 ?side4 A4.out).mono ?_);(case side1=>exact zz7);(case side2=>exact bY.out);(case side3=>exact aP9);(case side4=>exact HC1.out);rintro e w18 ⟨rfl,hb⟩;refine⟨_,rfl,?_⟩;have n_:=zA2 (aA4 (g:=aD) (o:=.cells #[.int .i64 aE,.slice aQ aC.length aG] 25 (0,0)) zz0 hb) (aA3 zz1 hb);clear aA HB;obtain⟨aA,HB⟩:=n_;clear hb;have jS:=aCg aA;have jR:=aCf aA;have jQ:=aA0 aA.out 0;have jP:=aA0 aA.out 1)|(go_at_call 37;(with_reducible refine(aDl.calls aE _ _ aC a2 false _ ?side1 ?side2 A6.out).mono ?_);(case side1=>exact zz7);(case side2=>exact bY.out);rintro e w20 ⟨rfl,hb⟩;have n_:=zA2 (aA4 (g:=aD) (o:=.cells #[.int .i64 aE,.slice aQ aC.length aG] 25 (0,0)) zz0 hb) (aA3 zz1 hb);clear aA HB;obtain⟨aA,HB⟩:=n_;(try clear hb);(try clear hb2);(try clear hk);(try clear hi))));(go_ret2);exact⟨_,zz9,aW2,zz1⟩
 subst c7;rw[if_pos rfl]at H;replace H:=zO_ H;obtain⟨⟨gV,gW⟩,A80,H⟩:=H;dsimp only at H;have A8:=zK_ A80;clear A80;simp only[Option.some.injEq,Prod.mk.injEq]at H;obtain⟨rfl,rfl⟩:=H;go_enter Try.func73,Try.ntmps73;(go_wp2_with (first|((with_reducible refine aAw (N:=3) rfl ?_);refine aAq ?hg (N:=3) ?hd (cs:=#[.int .i64 aE,.slice aQ aC.length aG]) (t:=25) ?hr ?_;(case hd=>rfl);(case hg=>rfl);(case hr=>exact aDq);intro aD hg w9 hbox hb;have n_:=zA4 (aA3 zz2 hb) hbox (aE1:w.heap.size<=aD) (aE1:w.heap.size<=aD);clear HB;obtain⟨HB,aA,aDt,aDe⟩:=n_;clear hb hbox hg;have eE:=aCg aA;have eD:=aCf aA;have eB:=aA0 aA.out 0;have d9:=aA0 aA.out 1)|((with_reducible refine aAa (f:=103) rfl ?_);refine aBg (some 12) rfl rfl Try.func103 (by kernel_rfl) rfl #[.agg #[.int .i64 aE,.slice aQ aC.length aG],.slice A1 l1.length c1] rfl zz3 ?_;(with_reducible refine(aC7.calls k aE _ _ aC _ _ l1 true _ ?side1 ?side2 ?side3 ?side4 A4.out).mono ?_);(case side1=>exact zz7);(case side2=>exact bY.out);(case side3=>exact aP9);(case side4=>exact HC1.out);rintro e w11 ⟨rfl,hb⟩;refine⟨_,rfl,?_⟩;have n_:=zA2 (aA4 (g:=aD) (o:=.cells #[.int .i64 aE,.slice aQ aC.length aG] 25 (0,0)) zz0 hb) (aA3 zz1 hb);clear aA HB;obtain⟨aA,HB⟩:=n_;clear hb;have kP:=aCg aA;have kO:=aCf aA;have kL:=aA0 aA.out 0;have kK:=aA0 aA.out 1)|(go_at_call 37;(with_reducible refine(aDl.calls aE _ _ aC a2 true _ ?side1 ?side2 A6.out).mono ?_);(case side1=>exact zz7);(case side2=>exact bY.out);rintro e w13 ⟨rfl,hb⟩;have n_:=zA2 (aA4 (g:=aD) (o:=.cells #[.int .i64 aE,.slice aQ aC.length aG] 25 (0,0)) zz0 hb) (aA3 zz1 hb);clear aA HB;obtain⟨aA,HB⟩:=n_;(try clear hb);(try clear hb2);(try clear hk);(try clear hi);have iO:=aCg aA;have iN:=aCf aA;have iM:=aA0 aA.out 0;have iL:=aA0 aA.out 1)|((with_reducible refine aAa (f:=69) rfl ?_);refine aBg (some 24) rfl rfl Try.func69 (by kernel_rfl) rfl #[.agg #[.int .i64 aE,.slice aQ aC.length aG],.slice A1 l1.length c1,.int .i64 a2] rfl zz3 ?_;(with_reducible refine(aB2.calls k aE _ _ aC _ _ l1 a2 gV gW _ ?side1 ?side2 ?side3 ?side4 A8.out).mono ?_);(case side1=>exact zz7);(case side2=>exact bY.out);(case side3=>exact aP9);(case side4=>exact HC1.out);rintro e w15 ⟨v105,bI7,rfl,ho0,ho1,hb⟩;refine⟨_,rfl,?_⟩;have n_:=zA4 (Kd.aCm ho0 (aAj zz1)) (Kd.aCm ho1 (aAj zz1)) (aA4 (g:=aD) (o:=.cells #[.int .i64 aE,.slice aQ aC.length aG] 25 (0,0)) zz0 hb) (aA3 zz1 hb);clear aA HB;obtain⟨mB,rB,aA,HB⟩:=n_;clear ho0 ho1 hb)));(go_ret2);exact⟨_,zz9,by(with_reducible repeat(first|apply Kd.aAu|apply Kd.aAt|apply Kd.aB5));exact Kd.aBh mB.out (λ_ hk=>trivial),zz1⟩
end P
end Go.Proofs.Ytfdaopkbibbhbaa
