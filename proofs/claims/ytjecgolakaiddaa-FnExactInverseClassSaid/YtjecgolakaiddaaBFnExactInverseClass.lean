/- FnExactInverseClass: for all arguments the law's call returns, its answer is true, and the arguments read as before. No condition. -/
import Derived.Test.YtjecgolakaiddaaRows
import Derived.Test.YtjecgolakaiddaaBFnExactInverseClass3
import Derived.Test.YtjecgolakaiddaaBFnExactInverseClass4
import Derived.WalkKit
import Derived.ProofKit
import Derived.OpenShut
import Derived.ShutString
import Derived.ChangeOld
import Derived.Below
import Derived.SizedLaws
namespace Go.Proofs.Ytjecgolakaiddaa.fnExactInverseClass
open Go.ChangeShapes Go.WideShapes Go.ChangeAt Go.RowKit Go.Proofs.YtjecgolakaiddaaW.PrintWords
open Go.ChangeMaps (open_string shut_string)
set_option linter.unusedVariables false
theorem own : ownKnob Try.prog.godebug = none := by kernel_rfl
theorem laidOut : laidOutB Try.prog = true := by kernel_rfl
set_option maxRecDepth 100000 in
theorem lifted (os : Os) (started : os.Started) (H : Type) (enc : TypeId × Value → H) :
    ReturnsInHanded {} Try.checked os 26 .any (Rows.fnExactInverseClassSpec.pre6 enc Try.prog Try.f26 Rows.fnExactInverseClassRow.domain false) (Rows.fnExactInverseClassSpec.post enc Try.prog Try.f26 false true false false) := by
  refine returnsInHanded_of_change_sized (C := Try.checked) own started (by kernel_rfl) Try.func26
    (ChangeSpec.witness6 (enc := enc) (C := Try.checked) false ⟨#[], #[.agg #[.int .i64 0, .slice none 0 0], .slice none 0 0], []⟩ 8 (by kernel_rfl) (by kernel_rfl) (by kernel_rfl) (by kernel_rfl)) ?_
  intro W base args ds gs before hval0 hW hcnd hsz0 _
  have hval : ∀ (j : Nat) t v, Try.f26.params[j]? = some t → args[j]? = some v → Value.okWide Try.prog W .any base t v := hval0
  have hW' := hW
  obtain ⟨p, q, hA0, hV, rfl, hfz, hnd⟩ := hW
  have hA : DataW.TrodAll enc Try.prog W 0 (fun _ => true) true Try.f26.params.toList args.toList ds p := hA0
  rw [Try.params26] at hA hval
  obtain ⟨v0, vs0, d0, ds0, p0, q0, hargs, rfl, rfl, h0, r0⟩ := trodAll_cons hA
  obtain ⟨v1, vs1, d1, ds1, p1, q1, rfl, rfl, rfl, h1, r1⟩ := trodAll_cons r0
  obtain ⟨rfl, rfl, rfl⟩ := trodAll_nil r1
  obtain rfl : args = #[v0, v1] := by cases args; simp_all
  obtain ⟨rfl, rfl⟩ := trodVars_none hV
  have k0 := h0
  have lt0 : ∀ x ∈ p0, x.block < W.heap.size := by obtain ⟨m, hm⟩ := k0; exact DataW.trod_lt m _ _ _ hm
  obtain ⟨n0, a0, len0, cap0, l0, rfl, wn0, rfl, hc0, hr0, hq0⟩ := Cf.arg_graph (d := P.k96) (Q := (fun x : Cf.E => Cf.Wf .i64 x.f0 ∧ Cf.Wf .i64 x.f1)) ⟨⟨0, 0⟩⟩ Try.underlying33 (by kernel_rfl) (by kernel_rfl) Try.underlying3 Try.underlying31 (by kernel_rfl) (fun m cs y hy => by obtain ⟨a, b, rfl, wa, wb⟩ := Cf.el_pair Try.underlying96 (by kernel_rfl) rfl rfl (by kernel_rfl) (by kernel_rfl) Try.underlying3 Try.underlying3 m cs y hy; exact ⟨(⟨a, b⟩ : P.S96), P.k96_mk _ _, ⟨wa, wb⟩⟩) (hval 0 33 v0 rfl rfl) h0
  obtain ⟨a1, len1, cap1, rfl⟩ := okWide_slice Try.underlying24 (hval 1 24 v1 rfl rfl)
  have k1 := h1
  have lt1 : ∀ x ∈ p1, x.block < W.heap.size := by obtain ⟨m, hm⟩ := k1; exact DataW.trod_lt m _ _ _ hm
  obtain ⟨l1, rfl, hc1, hr1, hq1⟩ := Cf.arg_slice (d := (Kd.int .i64)) (Q := (Cf.Wf .i64)) ⟨0⟩ Try.underlying24 (by kernel_rfl) (Cf.el_int Try.underlying3) h1
  clear hA0 hval0 hsz0
  obtain ⟨k, hk⟩ := (Cf.law_FnExactInverseClass n0 l0 l1 wn0 hq0 hq1).rounds
  refine (P.laws_FnExactInverseClass.calls k n0 _ _ l0 _ _ l1 true W hr0 hc0 hr1 hc1 hk).mono ?_
  rintro e W' ⟨rfl, bel0⟩
  have bel : Below W.heap.size W W' := bel0
  exact ⟨_, rfl, _, _, _, [], _, [], hW', trodAll_mk1 (shut_bool Try.underlying4 _), (trodAll_cons_mk (Below.trod laidOut (by kernel_rfl) (of_decide_eq_true (by kernel_rfl)) k0 bel lt0) (trodAll_cons_mk (Below.trod laidOut (by kernel_rfl) (of_decide_eq_true (by kernel_rfl)) k1 bel lt1) trodAll_mk0)), rfl, bel.frame _, fun h => by cases h⟩
theorem named : Try.prog.funcNamed Rows.fnExactInverseClassRow.func = some 26 := by kernel_rfl
theorem lifted' : (Rows.fnExactInverseClassRow.lifted == Try.prog.liftsFinal) = true := by rw [Cf.lifted]; kernel_rfl
theorem make' : (Try.prog.make == some Rows.fnExactInverseClassRow.make) = true := by rw [Cf.make]; kernel_rfl
set_option maxHeartbeats 20000000 in
theorem closed : joinedFacts Try.prog 26 Try.f26 Rows.fnExactInverseClassSpec Rows.fnExactInverseClassRow = true := by
  iterate 31 refine Cf.and2 ?_ (by first | (with_reducible exact Cf.enter) | (with_reducible exact lifted') | (with_reducible exact make') | (as_aux_lemma => kernel_rfl))
  as_aux_lemma => kernel_rfl
theorem over : Rows.fnExactInverseClassRow.holds Try.pinned (OpenSpec.ofChange Rows.fnExactInverseClassSpec) :=
  OpenClaim.holds_of_wide 26 Try.f26 rfl rfl rfl rfl rfl rfl rfl ⟨rfl, rfl, rfl, rfl, rfl⟩ rfl rfl rfl rfl rfl named Try.func26 closed
    (of_decide_eq_true (by kernel_rfl)) (by unfold Func.isWrapper; first | (rw [if_pos (by decide +kernel)]; kernel_rfl) | (rw [if_neg (by decide +kernel)]; exact ⟨rfl, rfl⟩))
    (fun os started H enc _ => lifted os started H enc)
end Go.Proofs.Ytjecgolakaiddaa.fnExactInverseClass
namespace Go.Proofs.Ytjecgolakaiddaa
theorem fnExactInverseClass_holds : Rows.FnExactInverseClassSaid := fnExactInverseClass.over
end Go.Proofs.Ytjecgolakaiddaa
#print axioms Go.Proofs.Ytjecgolakaiddaa.fnExactInverseClass_holds
