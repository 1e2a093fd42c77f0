/- FnExactTreeOfParking: for all arguments the law's call returns, its answer is true, and the arguments read as before. No condition. -/
import Derived.Test.YteokcodadpjepaaRows
import Derived.Test.YteokcodadpjepaaBFnExactTreeOfParking2
import Derived.Test.YteokcodadpjepaaBFnExactTreeOfParking3
import Derived.WalkKit
import Derived.ProofKit
import Derived.OpenShut
import Derived.ShutString
import Derived.ChangeOld
import Derived.Below
import Derived.SizedLaws
namespace Go.Proofs.Yteokcodadpjepaa.fnExactTreeOfParking
open Go.ChangeShapes Go.WideShapes Go.ChangeAt Go.RowKit Go.Proofs.YteokcodadpjepaaW.PrintWords
open Go.ChangeMaps (open_string shut_string)
set_option linter.unusedVariables false
theorem own : ownKnob Try.prog.godebug = none := by kernel_rfl
theorem laidOut : laidOutB Try.prog = true := by kernel_rfl
set_option maxRecDepth 100000 in
theorem lifted (os : Os) (started : os.Started) (H : Type) (enc : TypeId × Value → H) :
    ReturnsInHanded {} Try.checked os 4 .any (Rows.fnExactTreeOfParkingSpec.pre6 enc Try.prog Try.f4 Rows.fnExactTreeOfParkingRow.domain false) (Rows.fnExactTreeOfParkingSpec.post enc Try.prog Try.f4 false true false false) := by
  refine returnsInHanded_of_change_sized (C := Try.checked) own started (by kernel_rfl) Try.func4
    (ChangeSpec.witness6 (enc := enc) (C := Try.checked) false ⟨#[], #[.agg #[.int .i64 0, .slice none 0 0], .slice none 0 0, .int .i64 0], []⟩ 8 (by kernel_rfl) (by kernel_rfl) (by kernel_rfl) (by kernel_rfl)) ?_
  intro W base args ds gs before hval0 hW hcnd hsz0 _
  have hval : ∀ (j : Nat) t v, Try.f4.params[j]? = some t → args[j]? = some v → Value.okWide Try.prog W .any base t v := hval0
  have hW' := hW
  obtain ⟨p, q, hA0, hV, rfl, hfz, hnd⟩ := hW
  have hA : DataW.TrodAll enc Try.prog W 0 (fun _ => true) true Try.f4.params.toList args.toList ds p := hA0
  rw [Try.params4] at hA hval
  obtain ⟨v0, vs0, d0, ds0, p0, q0, hargs, rfl, rfl, h0, r0⟩ := trodAll_cons hA
  obtain ⟨v1, vs1, d1, ds1, p1, q1, rfl, rfl, rfl, h1, r1⟩ := trodAll_cons r0
  obtain ⟨v2, vs2, d2, ds2, p2, q2, rfl, rfl, rfl, h2, r2⟩ := trodAll_cons r1
  obtain ⟨rfl, rfl, rfl⟩ := trodAll_nil r2
  obtain rfl : args = #[v0, v1, v2] := by cases args; simp_all
  obtain ⟨rfl, rfl⟩ := trodVars_none hV
  have k0 := h0
  have lt0 : ∀ x ∈ p0, x.block < W.heap.size := by obtain ⟨m, hm⟩ := k0; exact DataW.trod_lt m _ _ _ hm
  obtain ⟨n0, a0, len0, cap0, l0, rfl, wn0, rfl, hc0, hr0, hq0⟩ := Cf.arg_graph (d := P.k85) (Q := (fun x : Cf.E => Cf.Wf .i64 x.f0 ∧ Cf.Wf .i64 x.f1)) ⟨⟨0, 0⟩⟩ Try.underlying24 (by kernel_rfl) (by kernel_rfl) Try.underlying3 Try.underlying22 (by kernel_rfl) (fun m cs y hy => by obtain ⟨a, b, rfl, wa, wb⟩ := Cf.el_pair Try.underlying85 (by kernel_rfl) rfl rfl (by kernel_rfl) (by kernel_rfl) Try.underlying3 Try.underlying3 m cs y hy; exact ⟨(⟨a, b⟩ : P.S85), P.k85_mk _ _, ⟨wa, wb⟩⟩) (hval 0 24 v0 rfl rfl) h0
  obtain ⟨a1, len1, cap1, rfl⟩ := okWide_slice Try.underlying25 (hval 1 25 v1 rfl rfl)
  have k1 := h1
  have lt1 : ∀ x ∈ p1, x.block < W.heap.size := by obtain ⟨m, hm⟩ := k1; exact DataW.trod_lt m _ _ _ hm
  obtain ⟨l1, rfl, hc1, hr1, hq1⟩ := Cf.arg_slice (d := (Kd.int .i64)) (Q := (Cf.Wf .i64)) ⟨0⟩ Try.underlying25 (by kernel_rfl) (Cf.el_int Try.underlying3) h1
  obtain ⟨b2, rfl, rfl, rfl, w2⟩ := open_int Try.underlying3 (hval 2 3 v2 rfl rfl) h2
  clear hA0 hval0 hsz0
  obtain ⟨k, hk⟩ := (Cf.law_FnExactTreeOfParking n0 l0 l1 b2 wn0 hq0 hq1 w2).rounds
  refine (P.laws_FnExactTreeOfParking.calls k n0 _ _ l0 _ _ l1 b2 true W hr0 hc0 hr1 hc1 hk).mono ?_
  rintro e W' ⟨rfl, bel0⟩
  have bel : Below W.heap.size W W' := bel0
  exact ⟨_, rfl, _, _, _, [], _, [], hW', trodAll_mk1 (shut_bool Try.underlying4 _), (trodAll_cons_mk (Below.trod laidOut (by kernel_rfl) (of_decide_eq_true (by kernel_rfl)) k0 bel lt0) (trodAll_cons_mk (Below.trod laidOut (by kernel_rfl) (of_decide_eq_true (by kernel_rfl)) k1 bel lt1) (trodAll_cons_mk (shut_int Try.underlying3 w2) trodAll_mk0))), rfl, bel.frame _, fun h => by cases h⟩
theorem named : Try.prog.funcNamed Rows.fnExactTreeOfParkingRow.func = some 4 := by kernel_rfl
theorem lifted' : (Rows.fnExactTreeOfParkingRow.lifted == Try.prog.liftsFinal) = true := by rw [Cf.lifted]; kernel_rfl
theorem make' : (Try.prog.make == some Rows.fnExactTreeOfParkingRow.make) = true := by rw [Cf.make]; kernel_rfl
set_option maxHeartbeats 20000000 in
theorem closed : joinedFacts Try.prog 4 Try.f4 Rows.fnExactTreeOfParkingSpec Rows.fnExactTreeOfParkingRow = true := by
  iterate 31 refine Cf.and2 ?_ (by first | (with_reducible exact Cf.enter) | (with_reducible exact lifted') | (with_reducible exact make') | (as_aux_lemma => kernel_rfl))
  as_aux_lemma => kernel_rfl
theorem over : Rows.fnExactTreeOfParkingRow.holds Try.pinned (OpenSpec.ofChange Rows.fnExactTreeOfParkingSpec) :=
  OpenClaim.holds_of_wide 4 Try.f4 rfl rfl rfl rfl rfl rfl rfl ⟨rfl, rfl, rfl, rfl, rfl⟩ rfl rfl rfl rfl rfl named Try.func4 closed
    (of_decide_eq_true (by kernel_rfl)) (by unfold Func.isWrapper; first | (rw [if_pos (by decide +kernel)]; kernel_rfl) | (rw [if_neg (by decide +kernel)]; exact ⟨rfl, rfl⟩))
    (fun os started H enc _ => lifted os started H enc)
end Go.Proofs.Yteokcodadpjepaa.fnExactTreeOfParking
namespace Go.Proofs.Yteokcodadpjepaa
theorem fnExactTreeOfParking_holds : Rows.FnExactTreeOfParkingSaid := fnExactTreeOfParking.over
end Go.Proofs.Yteokcodadpjepaa
#print axioms Go.Proofs.Yteokcodadpjepaa.fnExactTreeOfParking_holds
