/- A part of the proof of aF3. -/
import Derived.Test.YtnbljcgdgblgoaaGreatBFnListsWShare
import Derived.Test.YtnbljcgdgblgoaaGreatBFnListsWApart
import Derived.Test.YtnbljcgdgblgoaaGreatBFnListsWArr
set_option linter.unusedVariables false
set_option linter.unusedSimpArgs false
namespace Go.Proofs.YtnbljcgdgblgoaaGreatW.PrintWords
open Go.RowKit
namespace Kd
def chunks (sz:Nat) (n:Nat) (inner:List Value):List (List Value):=(List.range n).map λj=>(inner.drop (j*sz)).take sz
theorem aF0 (sz n:Nat) (inner:List Value):(chunks sz n inner).length=n:=by simp[chunks]
theorem aZu {sz n:Nat} {inner:List Value} {j:Nat} (hj:j<n):(chunks sz n inner)[j]? = some ((inner.drop (j*sz)).take sz):=by simp[chunks,hj]
theorem aLn {sz n:Nat} {inner:List Value} {j:Nat} {c:List Value} (h:(chunks sz n inner)[j]? = some c):c=(inner.drop (j*sz)).take sz:=by
 have hj:j<n:=by have:=(List.getElem?_eq_some_iff.1 h).1;rwa[aF0]at this
 rw[aZu hj]at h
 injection h with h
 exact h.symm
theorem aUg {α:Type} {Rr:α->List Value->Prop} {sz:Nat} {xs:List α} {inner:List Value} (h:aEs Rr sz xs inner) (hR:∀ x c,Rr x c->c.length=sz/\∀ u∈c,u.oneCell'=true):aEs (λx cs=>cs=x/\cs.length=sz/\∀ u∈cs,u.oneCell'=true) sz (chunks sz xs.length inner) inner:=by
 refine⟨by rw[aF0];exact h.1,λj p hj=>?_⟩
 have hjl:j<xs.length:=by have:=(List.getElem?_eq_some_iff.1 hj).1;rwa[aF0]at this
 have hp:=aLn hj
 exact⟨hp.symm,hR _ _ (h.2 j _ (List.getElem?_eq_getElem hjl))⟩
section
variable {α:Type} {d:Kd α} {e base n cc g:Nat} {ok ok' okp S:Nat->Prop} {w w1 W W1:World} {A:Option Addr} {u v v1:Value} {xs:List α} {x:α} {c:List Value}
def N {α:Type} (d:Kd α) (e:Nat) (w:World) (base:Nat) (ok:Nat->Prop) (v:Value) (xs:List α):Prop :=
 (∀ k,v.ownBlock=some k->ok k)/\∃ rows:List (List Value),rows.length=xs.length/\(raw d.sz).R e w base (λk=>some k=v.ownBlock) v rows/\∀ (j:Nat) (x:α) (c:List Value),xs[j]? = some x->rows[j]? = some c->FK d w (λk=>ok k/\some k≠v.ownBlock) x c
theorem aQm {sz:Nat} {rows:List (List Value)} (h:(raw sz).R e w base ok v rows):(raw sz).R e w base (λk=>some k=v.ownBlock) v rows:=aLp rfl h
theorem bFg {sz:Nat} {rows:List (List Value)} (h:(raw sz).R e w base ok v rows):(raw sz).R e w base (λ_=>True) v rows:=aBs h (λ_ _=>trivial)
theorem R_N (h:d.R e w base ok v xs):N d e w base ok v xs:=by
 obtain⟨h0,inner,ho,hr⟩:=h
 refine⟨h0,chunks d.sz xs.length inner,aF0 _ _ _,⟨λk hk=>hk.symm,inner,by rw[aF0];exact ho,aUg hr (λx c hp=>⟨d.aHu (d.aF4 hp),d.aH5 (d.aF4 hp)⟩)⟩,λj x c hx hc=>?_⟩
 rw[aLn hc]
 exact bHn (hr.2 j x hx)
theorem S_N (h:Kd.S d e w base ok v xs):N d e w base ok v xs:=R_N (S_R h)
theorem bMa (d:Kd α) (e:Nat) (w:World) (base:Nat) (ok:Nat->Prop):N d e w base ok (.slice none 0 0) []:=R_N (aWt _ _ _ _ _)
theorem aGd (h:N d e w base ok v xs) (hok:∀ k,ok k->ok' k):N d e w base ok' v xs:=by
 obtain⟨h0,rows,hl,hR,hf⟩:=h
 exact⟨λk hk=>hok k (h0 k hk),rows,hl,hR,λj x c hx hc=>aLs (hf j x c hx hc) (λk hk=>⟨hok k hk.1,hk.2⟩)⟩
theorem bO0 (h:N d e w base ok v xs):∀ k,v.ownBlock=some k->k<w.heap.size:=by
 obtain⟨_,rows,_,hR,_⟩:=h
 exact aIv hR
theorem bEj (h:N d e w base ok v xs):∀ k,v.ownBlock=some k->base<=k:=by
 obtain⟨_,rows,_,hR,_⟩:=h
 exact aDn hR
theorem bRi (h:N d e w base ok v xs) {t:Nat} {cells:Array Value} (hb:w.heap[g]? = some (.cells cells t (0,0))) (ht:e≠t):some g≠v.ownBlock:=by
 obtain⟨_,rows,_,hR,_⟩:=h
 exact aF1 hR hb ht
theorem aM8 (h:N d e w base ok v xs) (hok:∀ k,ok k->k≠g):some g≠v.ownBlock:=λhe=>hok g (h.1 g he.symm) rfl
theorem bAf (h:N d e w base ok v xs):N d e w base (λk=>ok k/\k<w.heap.size) v xs:=by
 have hlt:=bO0 h
 obtain⟨h0,rows,hl,hR,hf⟩:=h
 exact⟨λk hk=>⟨h0 k hk,hlt k hk⟩,rows,hl,hR,λj x c hx hc=>aLs (aPw (hf j x c hx hc)) (λk hk=>⟨⟨hk.1.1,hk.2⟩,hk.1.2⟩)⟩
theorem aNs {base':Nat} (h:N d e w base ok v xs) (hb:base'<=base):N d e w base' ok v xs:=by
 obtain⟨h0,rows,hl,hR,hf⟩:=h
 exact⟨h0,rows,hl,aCn hR hb,hf⟩
theorem aVk (h:N d e w base ok v xs) (hm:∀ k,ok k->k<w.heap.size->w1.heap[k]? = w.heap[k]?):N d e w1 base ok v xs:=by
 obtain⟨h0,rows,hl,hR,hf⟩:=h
 exact⟨h0,rows,hl,aHh hR (λk hk hlt=>hm k (h0 k hk.symm) hlt),λj x c hx hc=>aTt (hf j x c hx hc) (λk hk hlt=>hm k hk.1 hlt)⟩
theorem aLr (h:N d e w base ok v xs) (hb:Below w.heap.size w w1):N d e w1 base ok v xs:=aVk h (λk _ hk=>hb.block k hk)
theorem aFl (h:N d e w base ok v xs):N d e w.drew base ok v xs:=aLr h (aGi (Below.refl _ _))
theorem bMc (h:N d e w base ok v xs) {p:Addr} (hok:∀ k,ok k->k≠p.block) (u:Value):N d e (w.setCell p u) base ok v xs:=aVk h (λk ho _=>Below.heap_setCell w p u k (hok k ho))
theorem bAe (h:N d e w base ok v xs) (hk:aAw w w1 g none) (hok:∀ k,ok k->k≠g):N d e w1 base ok v xs:=aVk h (λk ho hlt=>hk.2 k hlt (hok k ho) (by simp))
theorem aPu (h:N d e W base ok v xs) (hbase:∀ k,u.ownBlock=some k->W.heap.size<=k) (hb:Below W.heap.size W w1):N d e w1 base (λk=>ok k/\some k≠u.ownBlock) v xs :=
 aGd (aLr (bAf h) hb) (λk hk=>⟨hk.1,λhe=>by have:=hbase k he.symm;have:=hk.2;omega⟩)
theorem bHf (h:N d e W base (λk=>ok k/\some k≠u.ownBlock) v xs) {u1:Value} (hg:W.grownBy w1 u.ownBlock) (hat:u1.ownBlock=u.ownBlock∨∃ b,u1.ownBlock=some b/\W.heap.size<=b):N d e w1 base (λk=>ok k/\some k≠u1.ownBlock) v xs:=by
 refine aGd (aVk (bAf h) (λk hk hlt=>hg.block k hlt hk.1.2)) (λk hk=>⟨hk.1.1,?_⟩)
 rcases hat with hat|⟨b,hb,hle⟩
 ·rw[hat];exact hk.1.2
 ·rw[hb]
  intro he
  injection he with he
  have:=hk.2
  omega
theorem aTr (h:N d e w base ok v xs):∃ A c,v = .slice A xs.length c:=by
 obtain⟨_,rows,hl,hR,_⟩:=h
 obtain⟨A,c,he⟩:=aBr hR
 exact⟨A,c,by rw[he,hl]⟩
theorem aHk {n c:Nat} (h:N d e w base ok (.slice A n c) xs):n=xs.length/\n<=c/\d.C w A xs.length xs:=by
 obtain⟨_,rows,hl,hR,hf⟩:=h
 obtain⟨hn,hc,hC⟩:=aAl hR
 refine⟨by omega,hc,?_⟩
 rw[hl]at hC
 refine⟨rfl,hC.2.1,λhp=>?_⟩
 obtain⟨ad,he,hcell⟩:=hC.2.2 hp
 refine⟨ad,he,λj p hj=>?_⟩
 have hjl:j<rows.length:=by have:=(List.getElem?_eq_some_iff.1 hj).1;omega
 obtain⟨c',hcl,hK,hcc⟩:=hcell j _ (List.getElem?_eq_getElem hjl)
 have hk:=aOr (hf j p _ hj (List.getElem?_eq_getElem hjl))
 refine⟨c',hcl,?_,hcc⟩
 rw[show c'=rows[j] from hK.1]
 exact hk
theorem bMd {n cap:Nat} (h:N d e W base ok (.slice (some ⟨g,0,none⟩) n cap) xs) (z:α) (i:Int) (h0:0<=i) (h1:i<n) :
  ∃ c,c.length=d.sz/\FK d W (λk=>ok k/\k≠g) (xs.getD i.toNat z) c/\(∀ j u,c[j]? = some u->W.cell? ⟨g,i.toNat*d.sz+j,none⟩=some u)/\∀ j,W.frozen? ⟨g,i.toNat*d.sz+j,none⟩=false:=by
 obtain⟨_,rows,hl,hR,hf⟩:=h
 have hn:=(aAl hR).1
 obtain⟨c,hcl,hM,hcc,hfr⟩:=bEi hR [] i h0 h1
 have hil:i.toNat<rows.length:=by omega
 have bQr:i.toNat<xs.length:=by omega
 have hc:c=rows[i.toNat]:=by
  have h2:=hM.1
  rwa[List.getD_eq_getElem?_getD,List.getElem?_eq_getElem hil]at h2
 refine⟨c,hcl,?_,hcc,hfr⟩
 rw[List.getD_eq_getElem?_getD,List.getElem?_eq_getElem bQr]
 exact aLs (hf _ _ _ (List.getElem?_eq_getElem bQr) (by rw[hc];exact List.getElem?_eq_getElem hil)) (λk hk=>⟨hk.1,λhe=>hk.2 (by rw[he];simp[Value.ownBlock])⟩)
theorem bDb {ad:Addr} {n cap:Nat} (h:N d e W base ok (.slice (some ad) n cap) xs) (z:α) (i:Int) (h0:0<=i) (h1:i<n) :
  ∃ c,c.length=d.sz/\FK d W (λk=>ok k/\some k≠(Value.slice (some ad) n cap).ownBlock) (xs.getD i.toNat z) c/\∀ j u,c[j]? = some u->W.cell? (ad.add (i.toNat*d.sz+j))=some u:=by
 obtain⟨g,rfl⟩:∃ g,ad=⟨g,0,none⟩:=by
  obtain⟨_,rows,_,hR,_⟩:=h
  exact bAb hR
 obtain⟨c,hcl,hM,hcc,_⟩:=bMd h z i h0 h1
 refine⟨c,hcl,aLs hM (λk hk=>⟨hk.1,λhe=>hk.2 (by simpa[Value.ownBlock]using he)⟩),λj u hu=>?_⟩
 rw[aRt,Nat.zero_add]
 exact hcc j u hu
end
end Kd
end Go.Proofs.YtnbljcgdgblgoaaGreatW.PrintWords
