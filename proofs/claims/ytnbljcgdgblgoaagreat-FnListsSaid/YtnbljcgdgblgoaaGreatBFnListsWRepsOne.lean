/- A part of the proof of aF3. -/
import Derived.Test.YtnbljcgdgblgoaaGreatBFnListsWWords
set_option linter.unusedVariables false
set_option linter.unusedSimpArgs false
namespace Go.Proofs.YtnbljcgdgblgoaaGreatW.PrintWords
theorem aEs.one {α:Type} {R:α->List Value->Prop} {ps:List α} {cs:List Value} {p:α} {v:Value} (hp:R p [v]) (h:aEs R 1 ps cs):aEs R 1 (p::ps) (v::cs):=by
 refine⟨by simp[h.1],λj q hq=>?_⟩
 cases j with
 | zero =>
  simp only[List.getElem?_cons_zero,Option.some.injEq]at hq
  subst hq
  simpa using hp
 | succ j =>
  simp only[List.getElem?_cons_succ]at hq
  have h1:=h.2 j q hq
  simpa[Nat.mul_one]using h1
theorem aEs.front {α:Type} {R:α->List Value->Prop} {size:Nat} {ps:List α} {cs c all:List Value} {p:α} (hp:R p c) (hc:c.length=size) (h:aEs R size ps cs) (ha:c++cs=all):aEs R size (p::ps) all:=by
 subst ha
 refine⟨by rw[List.length_append,hc,h.1,List.length_cons,Nat.succ_mul,Nat.add_comm],λj q hq=>?_⟩
 cases j with
 | zero =>
  simp only[List.getElem?_cons_zero,Option.some.injEq]at hq
  subst hq
  rw[Nat.zero_mul,List.drop_zero,List.take_append_of_le_length (by omega),List.take_of_length_le (by omega)]
  exact hp
 | succ j =>
  simp only[List.getElem?_cons_succ]at hq
  have h1:=h.2 j q hq
  rw[Nat.succ_mul,List.drop_append,List.drop_of_length_le (by rw[hc];exact Nat.le_add_left _ _),List.nil_append,hc,Nat.add_sub_cancel]
  exact h1
theorem aEs.c2 {α:Type} {R:α->List Value->Prop} {ps:List α} {cs:List Value} {p:α} {va vb:Value} (hp:R p [va,vb]) (h:aEs R 2 ps cs):aEs R 2 (p::ps) (va::vb::cs):=aEs.front hp rfl h rfl
theorem aEs.c3 {α:Type} {R:α->List Value->Prop} {ps:List α} {cs:List Value} {p:α} {va vb vc:Value} (hp:R p [va,vb,vc]) (h:aEs R 3 ps cs):aEs R 3 (p::ps) (va::vb::vc::cs):=aEs.front hp rfl h rfl
theorem aEs.c4 {α:Type} {R:α->List Value->Prop} {ps:List α} {cs:List Value} {p:α} {va vb vc vd:Value} (hp:R p [va,vb,vc,vd]) (h:aEs R 4 ps cs):aEs R 4 (p::ps) (va::vb::vc::vd::cs):=aEs.front hp rfl h rfl
theorem aEs.c5 {α:Type} {R:α->List Value->Prop} {ps:List α} {cs:List Value} {p:α} {va vb vc vd ve:Value} (hp:R p [va,vb,vc,vd,ve]) (h:aEs R 5 ps cs):aEs R 5 (p::ps) (va::vb::vc::vd::ve::cs):=aEs.front hp rfl h rfl
theorem aEs.c6 {α:Type} {R:α->List Value->Prop} {ps:List α} {cs:List Value} {p:α} {va vb vc vd ve vf:Value} (hp:R p [va,vb,vc,vd,ve,vf]) (h:aEs R 6 ps cs):aEs R 6 (p::ps) (va::vb::vc::vd::ve::vf::cs):=aEs.front hp rfl h rfl
theorem aEs.c7 {α:Type} {R:α->List Value->Prop} {ps:List α} {cs:List Value} {p:α} {va vb vc vd ve vf vg:Value} (hp:R p [va,vb,vc,vd,ve,vf,vg]) (h:aEs R 7 ps cs):aEs R 7 (p::ps) (va::vb::vc::vd::ve::vf::vg::cs):=aEs.front hp rfl h rfl
theorem aEs.c8 {α:Type} {R:α->List Value->Prop} {ps:List α} {cs:List Value} {p:α} {va vb vc vd ve vf vg vh:Value} (hp:R p [va,vb,vc,vd,ve,vf,vg,vh]) (h:aEs R 8 ps cs):aEs R 8 (p::ps) (va::vb::vc::vd::ve::vf::vg::vh::cs):=aEs.front hp rfl h rfl
end Go.Proofs.YtnbljcgdgblgoaaGreatW.PrintWords
