/- FnExactLevelCounts: for all arguments the law's call returns, its answer is true, and the arguments read as before. No condition. -/
import Derived.Test.YtnbljcgdgblgoaaRows
import Derived.Test.YtnbljcgdgblgoaaBFnExactLevelCounts3
import Derived.Test.YtnbljcgdgblgoaaBFnExactLevelCounts4
import Derived.WalkKit
import Derived.ProofKit
import Derived.OpenShut
import Derived.ShutString
import Derived.ChangeOld
import Derived.Below
import Derived.SizedLaws
set_option maxRecDepth 100000
set_option maxHeartbeats 20000000
namespace Go.Proofs.Ytnbljcgdgblgoaa.fnExactLevelCounts
open Go.ChangeShapes Go.WideShapes Go.ChangeAt Go.RowKit Go.Proofs.YtnbljcgdgblgoaaW.PrintWords
open Go.ChangeMaps (open_string shut_string)
set_option linter.unusedVariables false
theorem own : ownKnob Try.prog.godebug = none := by kernel_rfl
theorem laidOut : laidOutB Try.prog = true := by kernel_rfl
theorem lifted (os : Os) (started : os.Started) (H : Type) (enc : TypeId × Value → H) :
  ReturnsInHanded {} Try.checked os 7 .any (Rows.fnExactLevelCountsSpec.pre6 enc Try.prog Try.f7 Rows.fnExactLevelCountsRow.domain false) (Rows.fnExactLevelCountsSpec.post enc Try.prog Try.f7 false true false false) := by
 refine returnsInHanded_of_change_sized (C := Try.checked) own started (by kernel_rfl) Try.func7
  (ChangeSpec.witness6 (enc := enc) (C := Try.checked) false ⟨#[], #[.agg #[.int .i64 0, .slice none 0 0], .int .i64 0], []⟩ 8 (by kernel_rfl) (by kernel_rfl) (by kernel_rfl) (by kernel_rfl)) ?_
 intro W base args ds gs before hval0 hW hcnd hsz0 _
 have hval : ∀ (j : Nat) t v, Try.f7.params[j]? = some t → args[j]? = some v → Value.okWide Try.prog W .any base t v := hval0
 have hW' := hW
 obtain ⟨p, q, hA0, hV, rfl, hfz, hnd⟩ := hW
 have hA : DataW.TrodAll enc Try.prog W 0 (fun _ => true) true Try.f7.params.toList args.toList ds p := hA0
 rw [Try.params7] at hA hval
 obtain ⟨v0, vs0, d0, ds0, p0, q0, hargs, rfl, rfl, h0, r0⟩ := trodAll_cons hA
 obtain ⟨v1, vs1, d1, ds1, p1, q1, rfl, rfl, rfl, h1, r1⟩ := trodAll_cons r0
 obtain ⟨rfl, rfl, rfl⟩ := trodAll_nil r1
 obtain rfl : args = #[v0, v1] := by cases args; simp_all
 obtain ⟨rfl, rfl⟩ := trodVars_none hV
 have k0 := h0
 have lt0 : ∀ x ∈ p0, x.block < W.heap.size := by obtain ⟨m, hm⟩ := k0; exact DataW.trod_lt m _ _ _ hm
 obtain ⟨n0, a0, len0, cap0, l0, rfl, wn0, rfl, hc0, hr0, hq0⟩ := Cf.arg_graph (d := P.k101) (Q := (fun x : Cf.E => Cf.Wf .i64 x.f0 ∧ Cf.Wf .i64 x.f1)) ⟨⟨0, 0⟩⟩ Try.underlying41 (by kernel_rfl) (by kernel_rfl) Try.underlying3 Try.underlying39 (by kernel_rfl) (fun m cs y hy => by obtain ⟨a, b, rfl, wa, wb⟩ := Cf.el_pair Try.underlying101 (by kernel_rfl) rfl rfl (by kernel_rfl) (by kernel_rfl) Try.underlying3 Try.underlying3 m cs y hy; exact ⟨(⟨a, b⟩ : P.S101), P.k101_mk _ _, ⟨wa, wb⟩⟩) (hval 0 41 v0 rfl rfl) h0
 obtain ⟨b1, rfl, rfl, rfl, w1⟩ := open_int Try.underlying3 (hval 1 3 v1 rfl rfl) h1
 clear hA0 hval0 hsz0
 obtain ⟨k, hk⟩ := (Cf.law_FnExactLevelCounts n0 l0 b1 wn0 hq0 w1).rounds
 refine (P.laws_FnExactLevelCounts.calls k n0 _ _ l0 b1 true W hr0 hc0 hk).mono ?_
 rintro e W' ⟨rfl, bel0⟩
 have bel : Below W.heap.size W W' := bel0
 exact ⟨_, rfl, _, _, _, [], _, [], hW', trodAll_mk1 (shut_bool Try.underlying4 _), (trodAll_cons_mk (Below.trod laidOut (by kernel_rfl) (of_decide_eq_true (by kernel_rfl)) k0 bel lt0) (trodAll_cons_mk (shut_int Try.underlying3 w1) trodAll_mk0)), rfl, bel.frame _, fun h => by cases h⟩
theorem named : Try.prog.funcNamed Rows.fnExactLevelCountsRow.func = some 7 := by kernel_rfl
theorem lifted' : (Rows.fnExactLevelCountsRow.lifted == Try.prog.liftsFinal) = true := by rw [Cf.lifted]; kernel_rfl
theorem make' : (Try.prog.make == some Rows.fnExactLevelCountsRow.make) = true := by rw [Cf.make]; kernel_rfl
theorem closed : joinedFacts Try.prog 7 Try.f7 Rows.fnExactLevelCountsSpec Rows.fnExactLevelCountsRow = true := by
 iterate 31 refine Cf.and2 ?_ (by first | (with_reducible exact Cf.enter) | (with_reducible exact lifted') | (with_reducible exact make') | (as_aux_lemma => kernel_rfl))
 as_aux_lemma => kernel_rfl
theorem over : Rows.fnExactLevelCountsRow.holds Try.pinned (OpenSpec.ofChange Rows.fnExactLevelCountsSpec) :=
 OpenClaim.holds_of_wide 7 Try.f7 rfl rfl rfl rfl rfl rfl rfl ⟨rfl, rfl, rfl, rfl, rfl⟩ rfl rfl rfl rfl rfl named Try.func7 closed
  (of_decide_eq_true (by kernel_rfl)) (by unfold Func.isWrapper; first | (rw [if_pos (by decide +kernel)]; kernel_rfl) | (rw [if_neg (by decide +kernel)]; exact ⟨rfl, rfl⟩))
  (fun os started H enc _ => lifted os started H enc)
end Go.Proofs.Ytnbljcgdgblgoaa.fnExactLevelCounts
namespace Go.Proofs.Ytnbljcgdgblgoaa
theorem fnExactLevelCounts_holds : Rows.FnExactLevelCountsSaid := fnExactLevelCounts.over
end Go.Proofs.Ytnbljcgdgblgoaa
#print axioms Go.Proofs.Ytnbljcgdgblgoaa.fnExactLevelCounts_holds
