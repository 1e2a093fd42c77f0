/- A part of the proof of aE2. -/
import Derived.Test.YtfdaopkbibbhbaaBFnGroupsWWords
set_option linter.unusedVariables false
set_option linter.unusedSimpArgs false
namespace Go.Proofs.YtfdaopkbibbhbaaW.PrintWords
theorem aEf.one {α:Type} {R:α->List Value->Prop} {ps:List α} {cs:List Value} {p:α} {v:Value} (hp:R p [v]) (h:aEf R 1 ps cs):aEf R 1 (p::ps) (v::cs):=by
 refine⟨by simp[h.1],λj q hq=>?_⟩
 cases j with
 | zero =>
  simp only[List.getElem?_cons_zero,Option.some.injEq]at hq
  subst hq
  simpa using hp
 | succ j =>
  simp only[List.getElem?_cons_succ]at hq
  have h1:=h.2 j q hq
  simpa[Nat.mul_one]using h1
theorem aEf.front {α:Type} {R:α->List Value->Prop} {size:Nat} {ps:List α} {cs c all:List Value} {p:α} (hp:R p c) (hc:c.length=size) (h:aEf R size ps cs) (ha:c++cs=all):aEf R size (p::ps) all:=by
 subst ha
 refine⟨by rw[List.length_append,hc,h.1,List.length_cons,Nat.succ_mul,Nat.add_comm],λj q hq=>?_⟩
 cases j with
 | zero =>
  simp only[List.getElem?_cons_zero,Option.some.injEq]at hq
  subst hq
  rw[Nat.zero_mul,List.drop_zero,List.take_append_of_le_length (by omega),List.take_of_length_le (by omega)]
  exact hp
 | succ j =>
  simp only[List.getElem?_cons_succ]at hq
  have h1:=h.2 j q hq
  rw[Nat.succ_mul,List.drop_append,List.drop_of_length_le (by rw[hc];exact Nat.le_add_left _ _),List.nil_append,hc,Nat.add_sub_cancel]
  exact h1
theorem aEf.c2 {α:Type} {R:α->List Value->Prop} {ps:List α} {cs:List Value} {p:α} {va vb:Value} (hp:R p [va,vb]) (h:aEf R 2 ps cs):aEf R 2 (p::ps) (va::vb::cs):=aEf.front hp rfl h rfl
theorem aEf.c3 {α:Type} {R:α->List Value->Prop} {ps:List α} {cs:List Value} {p:α} {va vb vc:Value} (hp:R p [va,vb,vc]) (h:aEf R 3 ps cs):aEf R 3 (p::ps) (va::vb::vc::cs):=aEf.front hp rfl h rfl
theorem aEf.c4 {α:Type} {R:α->List Value->Prop} {ps:List α} {cs:List Value} {p:α} {va vb vc vd:Value} (hp:R p [va,vb,vc,vd]) (h:aEf R 4 ps cs):aEf R 4 (p::ps) (va::vb::vc::vd::cs):=aEf.front hp rfl h rfl
theorem aEf.c5 {α:Type} {R:α->List Value->Prop} {ps:List α} {cs:List Value} {p:α} {va vb vc vd ve:Value} (hp:R p [va,vb,vc,vd,ve]) (h:aEf R 5 ps cs):aEf R 5 (p::ps) (va::vb::vc::vd::ve::cs):=aEf.front hp rfl h rfl
theorem aEf.c6 {α:Type} {R:α->List Value->Prop} {ps:List α} {cs:List Value} {p:α} {va vb vc vd ve vf:Value} (hp:R p [va,vb,vc,vd,ve,vf]) (h:aEf R 6 ps cs):aEf R 6 (p::ps) (va::vb::vc::vd::ve::vf::cs):=aEf.front hp rfl h rfl
theorem aEf.c7 {α:Type} {R:α->List Value->Prop} {ps:List α} {cs:List Value} {p:α} {va vb vc vd ve vf vg:Value} (hp:R p [va,vb,vc,vd,ve,vf,vg]) (h:aEf R 7 ps cs):aEf R 7 (p::ps) (va::vb::vc::vd::ve::vf::vg::cs):=aEf.front hp rfl h rfl
theorem aEf.c8 {α:Type} {R:α->List Value->Prop} {ps:List α} {cs:List Value} {p:α} {va vb vc vd ve vf vg vh:Value} (hp:R p [va,vb,vc,vd,ve,vf,vg,vh]) (h:aEf R 8 ps cs):aEf R 8 (p::ps) (va::vb::vc::vd::ve::vf::vg::vh::cs):=aEf.front hp rfl h rfl
end Go.Proofs.YtfdaopkbibbhbaaW.PrintWords
