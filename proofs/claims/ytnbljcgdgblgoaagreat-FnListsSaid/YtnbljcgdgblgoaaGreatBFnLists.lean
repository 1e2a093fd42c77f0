/- aF3: for all arguments the law's call returns, its answer is true, and the arguments read as before. No condition. -/
import Derived.Test.YtnbljcgdgblgoaaGreatRows
import Derived.Test.YtnbljcgdgblgoaaGreatBFnLists5
import Derived.Test.YtnbljcgdgblgoaaGreatBFnLists6
import Derived.WalkKit
import Derived.ProofKit
import Derived.OpenShut
import Derived.ShutString
import Derived.ChangeOld
import Derived.Below
import Derived.SizedLaws
set_option linter.unusedVariables false
set_option linter.unusedSimpArgs false
set_option maxRecDepth 100000
set_option maxHeartbeats 20000000
namespace Go.Proofs.YtnbljcgdgblgoaaGreat.fnLists
open Go.ChangeShapes Go.WideShapes Go.ChangeAt Go.RowKit Go.Proofs.YtnbljcgdgblgoaaGreatW.PrintWords
open Go.ChangeMaps (open_string shut_string)
theorem own:ownKnob Tryz.prog.godebug=none:=by kernel_rfl
theorem laidOut:laidOutB Tryz.prog=true:=by kernel_rfl
theorem lifted (os:Os) (started:os.Started) (H:Type) (enc:TypeId×Value->H) :
  ReturnsInHanded {} Tryz.checked os 3 .any (Rows.fnListsSpec.pre6 enc Tryz.prog Tryz.f3 Rows.fnListsRow.domain false) (Rows.fnListsSpec.post enc Tryz.prog Tryz.f3 false true false false):=by
 refine returnsInHanded_of_change_sized (C:=Tryz.checked) own started (by kernel_rfl) Tryz.func3
  (ChangeSpec.witness6 (enc:=enc) (C:=Tryz.checked) false ⟨#[],#[.slice none 0 0],[]⟩ 8 (by kernel_rfl) (by kernel_rfl) (by kernel_rfl) (by kernel_rfl)) ?_
 intro W base args ds gs before hval0 hW hcnd hsz0 _
 have hval:∀ (j:Nat) t v,Tryz.f3.params[j]? = some t->args[j]? = some v->Value.okWide Tryz.prog W .any base t v:=hval0
 have hW':=hW
 obtain⟨p,q,hA0,hV,rfl,hfz,hnd⟩:=hW
 have hA:DataW.TrodAll enc Tryz.prog W 0 (λ_=>true) true Tryz.f3.params.toList args.toList ds p:=hA0
 rw[Tryz.params3]at hA hval
 obtain⟨v0,vs0,d0,ds0,p0,q0,hargs,rfl,rfl,h0,r0⟩:=trodAll_cons hA
 obtain⟨rfl,rfl,rfl⟩:=trodAll_nil r0
 obtain rfl:args=#[v0]:=by cases args;simp_all
 obtain⟨rfl,rfl⟩:=trodVars_none hV
 obtain⟨a0,len0,cap0,rfl⟩:=okWide_slice Tryz.underlying22 (hval 0 22 v0 rfl rfl)
 have k0:=h0
 have lt0:∀ x∈p0,x.block<W.heap.size:=by obtain⟨m,hm⟩:=k0;exact DataW.trod_lt m _ _ _ hm
 obtain⟨l0,rfl,hc0,hr0,hq0⟩:=Cf.bA1 (d:=(Kd.int .u8)) (Q:=(Cf.Wf .u8)) ⟨0⟩ Tryz.underlying22 (by kernel_rfl) (Cf.bLb Tryz.underlying5) h0
 clear hA0 hval0 hsz0
 obtain⟨k,hk⟩:=(Cf.aSx l0 hq0).rounds
 refine(P.aAz.calls k _ _ l0 true W hr0 hc0 hk).mono ?_
 rintro e W' ⟨rfl,bUi⟩
 have bel:Below W.heap.size W W':=bUi
 exact⟨_,rfl,_,_,_,[],_,[],hW',trodAll_mk1 (shut_bool Tryz.underlying4 _),(trodAll_cons_mk (Below.trod laidOut (by kernel_rfl) (of_decide_eq_true (by kernel_rfl)) k0 bel lt0) trodAll_mk0),rfl,bel.frame _,λh=>by cases h⟩
theorem named:Tryz.prog.funcNamed Rows.fnListsRow.func=some 3:=by kernel_rfl
theorem lifted':(Rows.fnListsRow.lifted==Tryz.prog.liftsFinal)=true:=by rw[Cf.lifted];kernel_rfl
theorem make':(Tryz.prog.make==some Rows.fnListsRow.make)=true:=by rw[Cf.make];kernel_rfl
theorem closed:joinedFacts Tryz.prog 3 Tryz.f3 Rows.fnListsSpec Rows.fnListsRow=true:=by
 iterate 31 refine Cf.bUj ?_ (by first|(with_reducible exact Cf.enter)|(with_reducible exact lifted')|(with_reducible exact make')|(as_aux_lemma=>kernel_rfl))
 as_aux_lemma=>kernel_rfl
theorem over:Rows.fnListsRow.holds Tryz.pinned (OpenSpec.ofChange Rows.fnListsSpec) :=
 OpenClaim.holds_of_wide 3 Tryz.f3 rfl rfl rfl rfl rfl rfl rfl ⟨rfl,rfl,rfl,rfl,rfl⟩ rfl rfl rfl rfl rfl named Tryz.func3 closed
  (of_decide_eq_true (by kernel_rfl)) (by unfold Func.isWrapper;first|(rw[if_pos (by decide +kernel)];kernel_rfl)|(rw[if_neg (by decide +kernel)];exact⟨rfl,rfl⟩))
  (λos started H enc _=>lifted os started H enc)
end Go.Proofs.YtnbljcgdgblgoaaGreat.fnLists
namespace Go.Proofs.YtnbljcgdgblgoaaGreat
theorem fnLists_holds:Rows.FnListsSaid:=fnLists.over
end Go.Proofs.YtnbljcgdgblgoaaGreat
#print axioms Go.Proofs.YtnbljcgdgblgoaaGreat.fnLists_holds
