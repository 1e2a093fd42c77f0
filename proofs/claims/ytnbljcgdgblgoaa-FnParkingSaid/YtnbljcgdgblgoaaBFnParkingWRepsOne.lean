/- A part of the proof of FnParking. -/
import Derived.Test.YtnbljcgdgblgoaaBFnParkingWWords
set_option linter.unusedVariables false
set_option linter.unusedSimpArgs false
namespace Go.Proofs.YtnbljcgdgblgoaaW.PrintWords
theorem aDs.one {α:Type} {R:α→List Value→Prop} {ps:List α} {cs:List Value} {p:α} {v:Value} (hp:R p [v]) (h:aDs R 1 ps cs):aDs R 1 (p::ps) (v::cs):=by
 refine⟨by simp[h.1],fun j q hq=>?_⟩
 cases j with
 | zero =>
  simp only[List.getElem?_cons_zero,Option.some.injEq]at hq
  subst hq
  simpa using hp
 | succ j =>
  simp only[List.getElem?_cons_succ]at hq
  have h1:=h.2 j q hq
  simpa[Nat.mul_one]using h1
theorem aDs.front {α:Type} {R:α→List Value→Prop} {size:Nat} {ps:List α} {cs c all:List Value} {p:α} (hp:R p c) (hc:c.length=size) (h:aDs R size ps cs) (ha:c++cs=all):aDs R size (p::ps) all:=by
 subst ha
 refine⟨by rw[List.length_append,hc,h.1,List.length_cons,Nat.succ_mul,Nat.add_comm],fun j q hq=>?_⟩
 cases j with
 | zero =>
  simp only[List.getElem?_cons_zero,Option.some.injEq]at hq
  subst hq
  rw[Nat.zero_mul,List.drop_zero,List.take_append_of_le_length (by omega),List.take_of_length_le (by omega)]
  exact hp
 | succ j =>
  simp only[List.getElem?_cons_succ]at hq
  have h1:=h.2 j q hq
  rw[Nat.succ_mul,List.drop_append,List.drop_of_length_le (by rw[hc];exact Nat.le_add_left _ _),List.nil_append,hc,Nat.add_sub_cancel]
  exact h1
theorem aDs.c2 {α:Type} {R:α→List Value→Prop} {ps:List α} {cs:List Value} {p:α} {va vb:Value} (hp:R p [va,vb]) (h:aDs R 2 ps cs):aDs R 2 (p::ps) (va::vb::cs):=aDs.front hp rfl h rfl
theorem aDs.c3 {α:Type} {R:α→List Value→Prop} {ps:List α} {cs:List Value} {p:α} {va vb vc:Value} (hp:R p [va,vb,vc]) (h:aDs R 3 ps cs):aDs R 3 (p::ps) (va::vb::vc::cs):=aDs.front hp rfl h rfl
theorem aDs.c5 {α:Type} {R:α→List Value→Prop} {ps:List α} {cs:List Value} {p:α} {va vb vc vd ve:Value} (hp:R p [va,vb,vc,vd,ve]) (h:aDs R 5 ps cs):aDs R 5 (p::ps) (va::vb::vc::vd::ve::cs):=aDs.front hp rfl h rfl
theorem aDs.c7 {α:Type} {R:α→List Value→Prop} {ps:List α} {cs:List Value} {p:α} {va vb vc vd ve vf vg:Value} (hp:R p [va,vb,vc,vd,ve,vf,vg]) (h:aDs R 7 ps cs):aDs R 7 (p::ps) (va::vb::vc::vd::ve::vf::vg::cs):=aDs.front hp rfl h rfl
theorem aDs.c8 {α:Type} {R:α→List Value→Prop} {ps:List α} {cs:List Value} {p:α} {va vb vc vd ve vf vg vh:Value} (hp:R p [va,vb,vc,vd,ve,vf,vg,vh]) (h:aDs R 8 ps cs):aDs R 8 (p::ps) (va::vb::vc::vd::ve::vf::vg::vh::cs):=aDs.front hp rfl h rfl
theorem aDs.c9 {α:Type} {R:α→List Value→Prop} {ps:List α} {cs:List Value} {p:α} {va vb vc vd ve vf vg vh vi:Value} (hp:R p [va,vb,vc,vd,ve,vf,vg,vh,vi]) (h:aDs R 9 ps cs):aDs R 9 (p::ps) (va::vb::vc::vd::ve::vf::vg::vh::vi::cs):=aDs.front hp rfl h rfl
theorem aDs.c10 {α:Type} {R:α→List Value→Prop} {ps:List α} {cs:List Value} {p:α} {va vb vc vd ve vf vg vh vi vj:Value} (hp:R p [va,vb,vc,vd,ve,vf,vg,vh,vi,vj]) (h:aDs R 10 ps cs):aDs R 10 (p::ps) (va::vb::vc::vd::ve::vf::vg::vh::vi::vj::cs):=aDs.front hp rfl h rfl
end Go.Proofs.YtnbljcgdgblgoaaW.PrintWords
