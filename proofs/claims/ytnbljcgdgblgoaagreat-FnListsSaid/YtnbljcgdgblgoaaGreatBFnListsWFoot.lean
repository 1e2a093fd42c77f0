/- A part of the proof of aF3. -/
import Derived.Test.YtnbljcgdgblgoaaGreatBFnListsWApart
import Derived.Test.YtnbljcgdgblgoaaGreatBFnListsWArr
set_option linter.unusedVariables false
set_option linter.unusedSimpArgs false
namespace Go.Proofs.YtnbljcgdgblgoaaGreatW.PrintWords
open Go.RowKit
namespace Kd
structure Heap {α:Type} (d:Kd α):Prop where
 K:∀ {w w1:World} {x:α} {cs:List Value},(∀ k,k<w.heap.size->w1.heap[k]? = w.heap[k]?)->d.K w x cs->d.K w1 x cs
theorem aZv {w w1:World} (hb:∀ k,k<w.heap.size->w1.heap[k]? = w.heap[k]?) {a:Addr} {v:Value} (h:w.cell? a=some v):w1.cell? a=some v:=by
 have:=hb a.block (World.block_lt_of_cell? w a h)
 simpa[World.cell?,this]using h
theorem Heap.C {α:Type} {d:Kd α} (hd:Heap d) {w w1:World} {A:Option Addr} {n:Nat} {xs:List α} (hb:∀ k,k<w.heap.size->w1.heap[k]? = w.heap[k]?) (h:d.C w A n xs):d.C w1 A n xs :=
 ⟨h.1,h.2.1,λhn=>by
  obtain⟨ad,e,hc⟩:=h.2.2 hn
  refine⟨ad,e,λj p hj=>?_⟩
  obtain⟨c,hs,hr,hcell⟩:=hc j p hj
  exact⟨c,hs,hd.K hb hr,λi u hu=>aZv hb (hcell i u hu)⟩⟩
theorem aV8 (k:IntKind):Heap (Kd.int k):=⟨λ_ h=>h⟩
theorem aZc {α β:Type} {a:Kd α} {b:Kd β} (ha:Heap a) (hb':Heap b):Heap (pair a b):=⟨by
 rintro w w1 x cs hb ⟨c0,c1,rfl,h0,h1⟩
 exact⟨c0,c1,rfl,ha.K hb h0,hb'.K hb h1⟩⟩
theorem bCn {α β:Type} {d:Kd α} (f:β->α) (hd:Heap d):Heap (iso d f):=⟨λhb h=>hd.K hb h⟩
end Kd
end Go.Proofs.YtnbljcgdgblgoaaGreatW.PrintWords
