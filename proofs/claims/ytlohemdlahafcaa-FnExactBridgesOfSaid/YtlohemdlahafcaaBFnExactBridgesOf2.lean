/- A part of the proof of FnExactBridgesOf. -/
import Derived.Test.YtlohemdlahafcaaBFnExactBridgesOf1
import Derived.Test.YtlohemdlahafcaaBFnExactBridgesOf0
import Derived.Deep.Slices
import Derived.Lib.SmallJoins
import Derived.ChangeSame
import Derived.Test.YtlohemdlahafcaaRows
import Derived.JoinedOf
import Derived.KernelRfl
section
namespace Go.Proofs.Ytlohemdlahafcaa.P
open Go.RowKit Go.Proofs.YtlohemdlahafcaaW.PrintWords Go.Proofs.YtlohemdlahafcaaW.PrintLast Go.Proofs.YtlohemdlahafcaaW.PrintMore
attribute [local go_sem] max2_int min2_int max_two min_two max_three min_three max_four min_four
set_option linter.unusedVariables false
set_option linter.unusedSimpArgs false
def impl_allWithin.l0 : Nat → Int → Int → List Int → Int → Int → Option (Bool)
 | 0, _, _, _, _, _ => none
 | k + 1, x1, x2, x9, x10, x11 => if x11 < x10 then (if 0 ≤ x11 then (if x11 < (x9.length : Int) then ((impl_within.f (rd x9 x11) x1 x2).bind fun t102 => (if t102 = true then (impl_allWithin.l0 k x1 x2 x9 x10 (wrap64 (x11 + 1))) else (some false))) else (none)) else (none)) else (some true)
def impl_allWithin.f (k : Nat) (l0 : List Int) (a1 : Int) (a2 : Int) : Option (Bool) := impl_allWithin.l0 k a1 a2 l0 (l0.length : Int) 0
theorem impl_allWithin.mono_l : ∀ k, (∀ y0 y1 y2 y3 y4, LeO (impl_allWithin.l0 k y0 y1 y2 y3 y4) (impl_allWithin.l0 (k + 1) y0 y1 y2 y3 y4))
 | 0 => fun _ _ _ _ _ r h => by simp [impl_allWithin.l0] at h
 | k + 1 => by
  have ih0 := impl_allWithin.mono_l k
  ·intro y0 y1 y2 y3 y4
   unfold impl_allWithin.l0
   exact zm0
theorem impl_allWithin.mono : ∀ a0 a1 a2 k, LeO (impl_allWithin.f k a0 a1 a2) (impl_allWithin.f (k + 1) a0 a1 a2) := by
 intro a0 a1 a2 k; have ih0 := impl_allWithin.mono_l k; unfold impl_allWithin.f; exact zm0
end Go.Proofs.Ytlohemdlahafcaa.P
end

section
namespace Go.Proofs.Ytlohemdlahafcaa.Cf
set_option linter.unusedVariables false
set_option linter.unusedSimpArgs false
open Go.RowKit Go.Proofs.YtlohemdlahafcaaW.PrintWords Go.Proofs.Ytlohemdlahafcaa.P
theorem implGraph (n : Int) (es : List E) : impl_GraphOk.f n es = some (gOk n es) := rfl
/-- The edge with this index is at v. -/
def At (es : List E) (k v : Int) : Prop := ∃ j : Nat, k = j ∧ ∃ h : j < es.length, es[j].f0 = v ∨ es[j].f1 = v
theorem At.of {es : List E} {j : Nat} {v : Int} (hj : j < es.length) : At es (j : Int) v ↔ (es[j].f0 = v ∨ es[j].f1 = v) := by
  constructor
  · rintro ⟨i, hi, h, hx⟩
    have : i = j := by omega
    subst this
    exact hx
  · intro h
    exact ⟨j, rfl, hj, h⟩
def dropO (n : Int) (es : List E) (i : Int) : Int × List E × Bool := if (gOk n es = true ∧ 0 ≤ i ∧ i < es.length) ∧ gOk n (es.eraseIdx i.toNat) = true then (n, es.eraseIdx i.toNat, true) else (0, [], false)
def brB (n : Int) (es : List E) (i : Int) : Bool := decide (gOk n es = true ∧ 0 ≤ i ∧ i < es.length) && !gOk n (es.eraseIdx i.toNat)
theorem dropO_yes {n : Int} {es : List E} {i : Nat} (hg : gOk n es = true) (hi : i < es.length) (h : gOk n (es.eraseIdx i) = true) : dropO n es (i : Int) = (n, es.eraseIdx i, true) := by
  unfold dropO
  rw [Int.toNat_natCast, if_pos ⟨⟨hg, by omega, by omega⟩, h⟩]
theorem dropO_no {n : Int} {es : List E} {i : Nat} (h : ¬ gOk n (es.eraseIdx i) = true) : dropO n es (i : Int) = (0, [], false) := by
  unfold dropO
  rw [Int.toNat_natCast, if_neg fun x => h x.2]
theorem dropO_out {n : Int} {es : List E} {i : Int} (h : ¬ (gOk n es = true ∧ 0 ≤ i ∧ i < es.length)) : dropO n es i = (0, [], false) := if_neg fun x => h x.1
theorem take_erase {α : Type} {es : List α} {i x : Nat} (h : i < es.length) : (es.take (i + 1)).eraseIdx x = if i = x then (es.take i).eraseIdx x else (es.take i).eraseIdx x ++ [es[i]] := by
  have hl : (es.take i).length = i := by rw [List.length_take]; omega
  rw [List.take_succ_eq_append_getElem h]
  by_cases c : i = x
  · rw [if_pos c, List.eraseIdx_append_of_length_le (by omega), hl, show x - i = 0 by omega, List.eraseIdx_of_length_le (l := es.take i) (by omega)]
    simp
  · rw [if_neg c]
    by_cases d : x < i
    · rw [List.eraseIdx_append_of_lt_length (by omega)]
    · rw [List.eraseIdx_append_of_length_le (by omega), List.eraseIdx_of_length_le (l := es.take i) (by omega), List.eraseIdx_of_length_le (by simp; omega)]
theorem specDropE_l0 {n : Int} {es : List E} (hel : es.length ≤ 12) {x : Nat} (hx : x < es.length) (hg : gOk n es = true) : ∀ (d i : Nat), i + d = es.length → Ep (fun k => spec_DropEdge.l0 k (x : Int) es (es.length : Int) (i : Int) n ((es.take i).eraseIdx x)) (· = dropO n es (x : Int)) := by
  intro d
  induction d with
  | zero =>
    intro i hi
    refine Ep.up ?_
    simp only [spec_DropEdge.l0]
    refine Ep.neg (by omega) ?_
    rw [List.take_of_length_le (by omega)]
    refine Ep.bind (specGraph n _) ?_
    rintro _ rfl
    exact Ep.ite (fun h => Ep.now (dropO_yes hg hx h).symm) (fun h => Ep.now (dropO_no h).symm)
  | succ d ih =>
    intro i hi
    have hlt : i < es.length := by omega
    have h1 := ih (i + 1) (by omega)
    rw [take_erase hlt] at h1
    refine Ep.up ?_
    simp only [spec_DropEdge.l0]
    refine Ep.pos (by omega) (Ep.pos (by omega) (Ep.pos (by omega) ?_))
    rw [wrap_succ (by omega), rdE_get hlt]
    refine Ep.ite (fun h => ?_) (fun h => ?_)
    · rw [if_pos (by omega)] at h1
      exact h1
    · rw [if_neg (by omega)] at h1
      refine Ep.pos (by have := List.length_eraseIdx_le (es.take i) x; rw [List.length_take] at this; omega) ?_
      exact h1
theorem specDropE (n : Int) (es : List E) (i : Int) : Ep (fun k => spec_DropEdge.f k n es i) (· = dropO n es i) := by
  have no : ¬ (gOk n es = true ∧ 0 ≤ i ∧ i < es.length) → Ep (fun k => spec_DropEdge.j0 k i true n es) (· = dropO n es i) := fun h => by
    refine Ep.up ?_
    simp only [spec_DropEdge.j0]
    exact Ep.pos trivial (Ep.now (dropO_out h).symm)
  simp only [spec_DropEdge.f]
  refine Ep.bind (specGraph n es) ?_
  rintro _ rfl
  refine Ep.ite (fun hg => ?_) (fun hg => no fun x => hg x.1)
  have hG := (gOk_iff.1 hg).1
  unfold EsOk at hG
  rw [wrap_id (x := (es.length : Int) - 1) (by omega) (by omega)]
  refine Ep.bind0 (l01In_eq _ _ _) ?_
  by_cases h : 0 ≤ i ∧ i < es.length
  · obtain ⟨x, rfl⟩ := Int.eq_ofNat_of_zero_le h.1
    have e : decide (0 ≤ (x : Int) ∧ (x : Int) ≤ (es.length : Int) - 1) = true := by rw [decide_eq_true_eq]; omega
    rw [e]
    refine Ep.up ?_
    simp only [spec_DropEdge.j0]
    refine Ep.neg (by simp) ?_
    have := specDropE_l0 (n := n) hG.2.2.1 (x := x) (by omega) hg es.length 0 (by omega)
    simpa using this
  · have e : decide (0 ≤ i ∧ i ≤ (es.length : Int) - 1) = false := by rw [decide_eq_false_iff_not]; omega
    rw [e]
    exact no fun x => h x.2
theorem implDropE (n : Int) (es : List E) (i : Int) : Ep (fun k => impl_DropEdge.f k n es i) (· = dropO n es i) := by
  have no : ¬ (gOk n es = true ∧ 0 ≤ i ∧ i < es.length) → Ep (fun k => impl_DropEdge.j0 k i true n es) (· = dropO n es i) := fun h => by
    refine Ep.up ?_
    simp only [impl_DropEdge.j0]
    exact Ep.pos trivial (Ep.now (dropO_out h).symm)
  simp only [impl_DropEdge.f]
  refine Ep.bind0 (implGraph n es) ?_
  refine Ep.ite (fun hg => ?_) (fun hg => no fun x => hg x.1)
  have hG := (gOk_iff.1 hg).1
  unfold EsOk at hG
  rw [wrap_id (x := (es.length : Int) - 1) (by omega) (by omega)]
  refine Ep.bind0 (within_eq _ _ _) ?_
  by_cases h : 0 ≤ i ∧ i < es.length
  · obtain ⟨x, rfl⟩ := Int.eq_ofNat_of_zero_le h.1
    have e : decide (0 ≤ (x : Int) ∧ (x : Int) ≤ (es.length : Int) - 1) = true := by rw [decide_eq_true_eq]; omega
    rw [e]
    refine Ep.up ?_
    simp only [impl_DropEdge.j0]
    refine Ep.neg (by simp) ?_
    have hc : impl_copyGraph.f n es = some (n, es) := by
      unfold impl_copyGraph.f
      rw [if_pos (by simp; omega), List.nil_append]
    refine Ep.bind0 hc (Ep.bind0 (a := es.eraseIdx x) ?_ ?_)
    · exact delF_eq (l := es) (by omega) (wrap_id (by omega) (by omega))
    · refine Ep.bind0 (implGraph n _) ?_
      exact Ep.ite (fun h2 => Ep.now (dropO_yes hg (by omega) h2).symm) (fun h2 => Ep.now (dropO_no h2).symm)
  · have e : decide (0 ≤ i ∧ i ≤ (es.length : Int) - 1) = false := by rw [decide_eq_false_iff_not]; omega
    rw [e]
    exact no fun x => h x.2
theorem brB_eq {n : Int} {es : List E} {i : Int} (h : gOk n es = true ∧ 0 ≤ i ∧ i < es.length) : brB n es i = !(dropO n es i).2.2 := by
  unfold brB dropO
  rw [decide_eq_true h, Bool.true_and]
  by_cases c : gOk n (es.eraseIdx i.toNat) = true
  · rw [if_pos ⟨h, c⟩, c]
  · rw [if_neg fun x => c x.2]
    simpa using c
theorem specBr (n : Int) (es : List E) (i : Int) : Ep (fun k => spec_IsBridge.f k n es i) (· = brB n es i) := by
  have no : ¬ (gOk n es = true ∧ 0 ≤ i ∧ i < es.length) → false = brB n es i := fun h => by unfold brB; rw [decide_eq_false h]; rfl
  simp only [spec_IsBridge.f]
  refine Ep.bind (specGraph n es) ?_
  rintro _ rfl
  refine Ep.ite (fun hg => ?_) (fun hg => Ep.now (no fun x => hg x.1))
  have hG := (gOk_iff.1 hg).1
  unfold EsOk at hG
  rw [wrap_id (x := (es.length : Int) - 1) (by omega) (by omega)]
  refine Ep.bind0 (l01In_eq _ _ _) ?_
  refine Ep.ite (fun h => ?_) (fun h => Ep.now (no fun x => h (by rw [decide_eq_true_eq]; omega)))
  rw [decide_eq_true_eq] at h
  refine Ep.bind (specDropE n es i) ?_
  rintro _ rfl
  exact Ep.now (brB_eq ⟨hg, by omega, by omega⟩).symm
theorem implBr (n : Int) (es : List E) (i : Int) : Ep (fun k => impl_IsBridge.f k n es i) (· = brB n es i) := by
  have no : ¬ (gOk n es = true ∧ 0 ≤ i ∧ i < es.length) → false = brB n es i := fun h => by unfold brB; rw [decide_eq_false h]; rfl
  simp only [impl_IsBridge.f]
  refine Ep.bind0 (implGraph n es) ?_
  refine Ep.ite (fun hg => ?_) (fun hg => Ep.now (no fun x => hg x.1))
  have hG := (gOk_iff.1 hg).1
  unfold EsOk at hG
  rw [wrap_id (x := (es.length : Int) - 1) (by omega) (by omega)]
  refine Ep.bind0 (within_eq _ _ _) ?_
  refine Ep.ite (fun h => ?_) (fun h => Ep.now (no fun x => h (by rw [decide_eq_true_eq]; omega)))
  rw [decide_eq_true_eq] at h
  refine Ep.bind (implDropE n es i) ?_
  rintro _ rfl
  exact Ep.now (brB_eq ⟨hg, by omega, by omega⟩).symm
/-- The bridges below k. -/
def brs (n : Int) (es : List E) : Nat → List Int
  | 0 => []
  | k + 1 => if brB n es (k : Int) = true then brs n es k ++ [(k : Int)] else brs n es k
theorem brs_succ (n : Int) (es : List E) (k : Nat) : brs n es (k + 1) = if brB n es (k : Int) = true then brs n es k ++ [(k : Int)] else brs n es k := rfl
theorem brs_len (n : Int) (es : List E) : ∀ k, (brs n es k).length ≤ k
  | 0 => Nat.le_refl _
  | k + 1 => by
    have := brs_len n es k
    unfold brs
    split
    · simp; omega
    · omega
def brO (n : Int) (es : List E) : List Int := if gOk n es = true then brs n es es.length else []
theorem brO_len (n : Int) (es : List E) : (brO n es).length ≤ 12 := by
  unfold brO
  split
  · rename_i h
    have hG := (gOk_iff.1 h).1
    unfold EsOk at hG
    have := brs_len n es es.length
    omega
  · simp
theorem specBrs_l0 {n : Int} {es : List E} (hel : es.length ≤ 12) : ∀ (d i : Nat), i + d = es.length → Ep (fun k => spec_BridgesOf.l0 k (brs n es i) (es.length : Int) (i : Int) n es) (· = brs n es es.length) := by
  intro d
  induction d with
  | zero =>
    intro i hi
    obtain rfl : i = es.length := by omega
    refine Ep.up ?_
    simp only [spec_BridgesOf.l0]
    exact Ep.neg (by omega) (Ep.now rfl)
  | succ d ih =>
    intro i hi
    have h1 := ih (i + 1) (by omega)
    have hl := brs_len n es i
    refine Ep.up ?_
    simp only [spec_BridgesOf.l0]
    refine Ep.pos (by omega) (Ep.bind (specBr n es _) ?_)
    rintro _ rfl
    rw [wrap_succ (by omega)]
    rw [brs_succ] at h1
    refine Ep.ite (fun h => ?_) (fun h => ?_)
    · rw [if_pos h] at h1
      exact Ep.pos (by omega) h1
    · rw [if_neg h] at h1
      exact h1
theorem implBrs_l0 {n : Int} {es : List E} (hel : es.length ≤ 12) : ∀ (d i : Nat), i + d = es.length → Ep (fun k => impl_BridgesOf.l0 k (brs n es i) (es.length : Int) (i : Int) n es) (· = brs n es es.length) := by
  intro d
  induction d with
  | zero =>
    intro i hi
    obtain rfl : i = es.length := by omega
    refine Ep.up ?_
    simp only [impl_BridgesOf.l0]
    exact Ep.neg (by omega) (Ep.now rfl)
  | succ d ih =>
    intro i hi
    have h1 := ih (i + 1) (by omega)
    have hl := brs_len n es i
    refine Ep.up ?_
    simp only [impl_BridgesOf.l0]
    refine Ep.pos (by omega) (Ep.bind (implBr n es _) ?_)
    rintro _ rfl
    rw [wrap_succ (by omega)]
    rw [brs_succ] at h1
    refine Ep.ite (fun h => ?_) (fun h => ?_)
    · rw [if_pos h] at h1
      exact Ep.pos (by omega) h1
    · rw [if_neg h] at h1
      exact h1
theorem specBrs (n : Int) (es : List E) : Ep (fun k => spec_BridgesOf.f k n es) (· = brO n es) := by
  simp only [spec_BridgesOf.f, brO]
  refine Ep.bind (specGraph n es) ?_
  rintro _ rfl
  refine Ep.ite (fun h => ?_) (fun h => Ep.now (by rw [if_neg h]))
  rw [if_pos h]
  have hG := (gOk_iff.1 h).1
  unfold EsOk at hG
  exact specBrs_l0 hG.2.2.1 es.length 0 (by omega)
theorem implBrs (n : Int) (es : List E) : Ep (fun k => impl_BridgesOf.f k n es) (· = brO n es) := by
  simp only [impl_BridgesOf.f, brO]
  refine Ep.bind0 (implGraph n es) ?_
  refine Ep.ite (fun h => ?_) (fun h => Ep.now (by rw [if_neg h]))
  rw [if_pos h]
  have hG := (gOk_iff.1 h).1
  unfold EsOk at hG
  exact implBrs_l0 hG.2.2.1 es.length 0 (by omega)
def EWf (e : E) : Prop := Wf .i64 e.f0 ∧ Wf .i64 e.f1
theorem rdLE_get {es : List E} {i : Nat} (h : i < es.length) : rd_T85 es (i : Int) = es[i] := by simp [rd_T85, List.getD, h]
theorem szGraph_ok (n : Int) (es : List E) (a : Int) (ha : 0 ≤ a ∧ a ≤ 1048576) (hl : es.length ≤ 9223372036854775807) : ∃ t, laws_szGraph.f n es a = some t ∧ t ≤ 1048576 ∧ (¬ t < 0 → es.length ≤ 1048576) := by
  unfold laws_szGraph.f laws_szEdgeS.f
  rw [wrap_id (by omega) (by omega)]
  by_cases h : a - (es.length : Int) < 0
  · refine ⟨-1, ?_, by omega, by omega⟩
    rw [if_pos h]
    simp
  · refine ⟨a - es.length, ?_, by omega, by omega⟩
    rw [if_neg h]
    simp only [Option.bind_some]
    rw [if_neg h]
theorem toEdgeS_l0 (x0 : List E) (h : x0.length ≤ 1048576) : ∀ (d i : Nat) (x3 : List E), i + d = x0.length → x3.length = x0.length → (∀ j, j < i → x3[j]? = x0[j]?) → Ep (fun k => laws_toEdgeS.l0 k x0 x3 (i : Int)) (· = x0) := by
  intro d
  induction d with
  | zero =>
    intro i x3 hi hl hx
    refine Ep.up ?_
    simp only [laws_toEdgeS.l0]
    refine Ep.neg (by omega) (Ep.now ?_)
    apply List.ext_getElem?
    intro j
    by_cases hj : j < i
    · exact hx j hj
    · rw [List.getElem?_eq_none (by omega), List.getElem?_eq_none (by omega)]
  | succ d ih =>
    intro i x3 hi hl hx
    have hlt : i < x0.length := by omega
    refine Ep.up ?_
    simp only [laws_toEdgeS.l0]
    refine Ep.pos (by omega) (Ep.pos (by omega) ?_)
    rw [rdLE_get hlt, wrap_succ (by omega)]
    refine Ep.bind0 rfl (Ep.pos (by omega) ?_)
    refine ih (i + 1) _ (by omega) (by simpa using hl) ?_
    intro j hj
    rw [Int.toNat_natCast]
    by_cases e : i = j
    · subst e
      rw [List.getElem?_set_self (by omega), List.getElem?_eq_getElem (by omega)]
    · rw [List.getElem?_set_ne e]
      exact hx j (by omega)
theorem toGraph_ok (n : Int) (es : List E) (h : es.length ≤ 1048576) : Ep (fun k => laws_toGraph.f k n es) (· = (n, es)) := by
  simp only [laws_toGraph.f, laws_toEdgeS.f]
  refine Ep.bind (P := (· = es)) (Ep.pos (by omega) (Ep.pos (by simp; omega) ?_)) ?_
  · exact toEdgeS_l0 es h es.length 0 _ (by omega) (by simp) (fun j hj => by omega)
  · rintro _ rfl
    exact Ep.now rfl
theorem eqEdge_ok (a b : Int) : laws_eqEdge.f a b a b = some true := by simp [laws_eqEdge.f]
theorem eqEdgeS_l0 (x : List E) (h : x.length ≤ 1048576) : ∀ (d i : Nat), i + d = x.length → Ep (fun k => laws_eqEdgeS.l0 k x x (i : Int)) (· = true) := by
  intro d
  induction d with
  | zero =>
    intro i hi
    refine Ep.up ?_
    simp only [laws_eqEdgeS.l0]
    exact Ep.neg (by omega) (Ep.now rfl)
  | succ d ih =>
    intro i hi
    refine Ep.up ?_
    simp only [laws_eqEdgeS.l0]
    refine Ep.pos (by omega) (Ep.pos (by omega) (Ep.pos (by omega) ?_))
    rw [wrap_succ (by omega)]
    exact Ep.bind0 (eqEdge_ok _ _) (Ep.pos rfl (ih (i + 1) (by omega)))
theorem eqGraph_ok (n : Int) (es : List E) (h : es.length ≤ 1048576) : Ep (fun k => laws_eqGraph.f k n es n es) (· = true) := by
  simp only [laws_eqGraph.f]
  refine Ep.pos trivial (Ep.bind (P := (· = true)) ?_ ?_)
  · simp only [laws_eqEdgeS.f]
    exact Ep.pos trivial (eqEdgeS_l0 es h es.length 0 (by omega))
  · rintro _ rfl
    exact Ep.pos rfl (Ep.now rfl)
theorem markEdgeS_l0 (n : Nat) (hn : n ≤ 1048576) {B : Int} (hB : B ≤ 1099511627776) : ∀ (d i : Nat) (x : List E) (a : Int), i + d = n → x.length = n → 0 ≤ a → a + 2 * d ≤ B → Ep (fun k => laws_markEdgeS.l0 k x a (i : Int)) (fun r => 0 ≤ r.1 ∧ r.1 ≤ B) := by
  intro d
  induction d with
  | zero =>
    intro i x a hi hx h0 ha
    refine Ep.up ?_
    simp only [laws_markEdgeS.l0]
    exact Ep.neg (by omega) (Ep.now ⟨h0, by omega⟩)
  | succ d ih =>
    intro i x a hi hx h0 ha
    refine Ep.up ?_
    simp only [laws_markEdgeS.l0]
    refine Ep.pos (by omega) (Ep.pos (by omega) (Ep.bind0 rfl ?_))
    rw [wrap_succ (by omega), wrap_id (x := a + 1) (by omega) (by omega), wrap_id (x := a + 1 + 1) (by omega) (by omega)]
    exact ih (i + 1) _ _ (by omega) (by simpa using hx) (by omega) (by omega)
theorem markGraph_ok (n : Int) (es : List E) (a : Int) (h : es.length ≤ 1048576) (ha : 0 ≤ a ∧ a ≤ 1000) : Ep (fun k => laws_markGraph.f k n es a) (fun r => 0 ≤ r.1 ∧ r.1 ≤ 3000000) := by
  have := markEdgeS_l0 es.length h (B := 3000000) (by omega) es.length 0 es a (by omega) rfl ha.1 (by omega)
  simp only [laws_markGraph.f, laws_markEdgeS.f]
  refine Ep.bind this ?_
  intro r hr
  exact Ep.now hr
theorem law_FnExactBridgesOf (n : Int) (es : List E) (hn : Wf .i64 n) (hes : SL EWf es) : Ep (fun k => laws_FnExactBridgesOf.f k n es) (· = true) := by
  have hr0 : (brO n es).length ≤ 1048576 := by have := brO_len n es; omega
  simp only [laws_FnExactBridgesOf.f]
  obtain ⟨t, ht, _, h2⟩ := szGraph_ok n es 1048576 (by omega) hes.1
  refine Ep.bind0 ht (Ep.ite (fun _ => Ep.now rfl) (fun hc2 => ?_))
  have hel := h2 hc2
  repeat (first
    | exact Ep.now rfl
    | (refine Ep.bind (toGraph_ok _ _ hel) ?_; rintro _ rfl)
    | (refine Ep.bind (eqGraph_ok _ _ hel) ?_; rintro _ rfl)
    | (refine Ep.bind (eqIntS_ok _ hr0) ?_; rintro _ rfl)
    | (refine Ep.bind (specBrs _ _) ?_; rintro _ rfl)
    | (refine Ep.bind (implBrs _ _) ?_; rintro _ rfl)
    | (refine Ep.bind (heldIntS_ok _ _ hr0 (by first | omega | (simp; omega))) ?_; rintro _ rfl)
    | (refine Ep.bind (markIntS_ok _ _ hr0 (by first | omega | (simp; omega))) ?_; rintro _ rfl)
    | (refine Ep.bind (markGraph_ok _ _ 1 hel (by omega)) ?_; intro r hr0_)
    | refine Ep.pos rfl ?_
    | refine Ep.pos trivial ?_
    | refine Ep.neg (by simp; omega) ?_
    | refine Ep.neg (by omega) ?_
    | refine Ep.neg (by simp) ?_
    | (refine Ep.up ?_; simp only [laws_FnExactBridgesOf.j0]))
end Go.Proofs.Ytlohemdlahafcaa.Cf
end

section
namespace Go.Proofs.Ytlohemdlahafcaa.Cf
set_option linter.unusedVariables false
set_option linter.unusedSimpArgs false
open Go.RowKit Go.ChangeShapes Go.WideShapes Go.Deep Go.Joins Go.Proofs.YtlohemdlahafcaaW.PrintWords
section
variable {H : Type} {enc : TypeId × Value → H} {P : Program} {w : World} {base : Nat} {spare : Nat → Bool} {held : Bool}
/-- A slice, whatever its elements are, if each of them can be told. -/
theorem trod_C {α : Type} {d : Kd α} {Q : α → Prop} (hd : Inhabited α) {t e : TypeId} {fuel : Nat} {cs : List Value} {x : DataW H × List MemPlace} (ht : P.underlying t = some (.slice e)) (hsz : P.cellsOf e = d.sz)
    (hel : ∀ (n : Nat) (cs : List Value) (y : DataW H × List MemPlace), DataW.trod enc P w base spare held n e cs = some y → ∃ a : α, d.K w a cs ∧ Q a)
    (h : DataW.trod enc P w base spare held fuel t cs = some x) : ∃ A len cap xs, cs = [.slice A len cap] ∧ xs.length = len ∧ len ≤ cap ∧ Kd.C d w A len xs ∧ SL Q xs := by
  rcases open_slice ht h with ⟨rfl, _⟩ | ⟨a, len, cap, m, n, D, Pl, rfl, _, hl, hm, hmm, _, hx⟩
  · exact ⟨none, 0, 0, [], rfl, rfl, Nat.le_refl _, ⟨rfl, by omega, fun hn => by omega⟩, by simp, fun x hx => by cases hx⟩
  · have hlm : len ≤ m := by rw [hmm]; split <;> omega
    obtain ⟨X, hX⟩ := choose_lt (α := α) (n := len) (p := fun i z => Q z ∧ ∃ c, c.length = d.sz ∧ d.K w z c ∧ ∀ j u, c[j]? = some u → w.cell? (a.add (i * d.sz + j)) = some u) (fun i hi => by
      obtain ⟨cs', h1, h2⟩ := hx i (by omega)
      obtain ⟨z, hz, hq⟩ := hel n cs' _ h2
      obtain ⟨_, hlen, hc⟩ := World.cells?_some h1
      refine ⟨z, hq, cs', by rw [hlen, hsz], hz, fun j u hj => ?_⟩
      have hjl : j < cs'.length := by
        apply Classical.byContradiction
        intro hc
        rw [List.getElem?_eq_none (by omega)] at hj
        cases hj
      have := hc j (by omega)
      rw [Deep.add_add, hsz] at this
      rw [this, hj])
    refine ⟨some a, len, cap, (List.range len).map X, rfl, by simp, hl, ⟨by simp, ?_, fun _ => ⟨a, rfl, fun j p hj => ?_⟩⟩, by simp; unfold maxLen at hm; omega, fun x hx => ?_⟩
    · unfold maxLen at hm
      omega
    · have hjl : j < len := by
        apply Classical.byContradiction
        intro hc
        rw [List.getElem?_eq_none (by simp; omega)] at hj
        cases hj
      have : p = X j := by
        rw [List.getElem?_eq_getElem (by simpa using hjl)] at hj
        simpa using hj.symm
      subst this
      exact (hX j hjl).2
    · obtain ⟨i, hi, rfl⟩ := List.mem_map.1 hx
      exact (hX i (List.mem_range.1 hi)).1
/-- A struct of two numbers. -/
theorem el_pair {k0 k1 : IntKind} {e : TypeId} {f0 f1 : Field} (he : P.underlying e = some (.struct #[f0, f1])) (ce : P.cellsOf e = 2) (o0 : f0.offset = 0) (o1 : f1.offset = 1) (c0 : P.cellsOf f0.type = 1) (c1 : P.cellsOf f1.type = 1)
    (u0 : P.underlying f0.type = some (.int k0)) (u1 : P.underlying f1.type = some (.int k1)) :
    ∀ (n : Nat) (cs : List Value) (y : DataW H × List MemPlace), DataW.trod enc P w base spare held n e cs = some y → ∃ a b : Int, cs = [.int k0 a, .int k1 b] ∧ Wf k0 a ∧ Wf k1 b := by
  intro n cs y h
  obtain ⟨y0, y1, m, _, hl, h0, h1⟩ := trod_struct2 he h
  rw [ce] at hl
  rw [o0, c0] at h0
  rw [o1, c1] at h1
  match cs, hl with
  | [a, b], _ =>
    obtain ⟨x, hx, _, wx⟩ := DataW.trod_int u0 h0
    obtain ⟨z, hz, _, wz⟩ := DataW.trod_int u1 h1
    simp at hx hz
    subst hx; subst hz
    exact ⟨x, z, rfl, wx, wz⟩
/-- A struct of a number and a slice that comes in. -/
theorem arg_graph {α : Type} {d : Kd α} {Q : α → Prop} (hd : Inhabited α) {r : Reach} {b0 : Nat} {t e : TypeId} {f0 f1 : Field} {v : Value} {x : DataW H} {p : List MemPlace} (hs : P.underlying t = some (.struct #[f0, f1])) (hone : oneCellFields P #[f0, f1] = true) (hC : P.cellsOf t = 2)
    (u0 : P.underlying f0.type = some (.int .i64)) (u1 : P.underlying f1.type = some (.slice e)) (hsz : P.cellsOf e = d.sz)
    (hel : ∀ (n : Nat) (cs : List Value) (y : DataW H × List MemPlace), DataW.trod enc P w base spare held n e cs = some y → ∃ a : α, d.K w a cs ∧ Q a)
    (hv : Value.okWide P w r b0 t v) (h : DataW.Trod enc P w base spare held t v x p) : ∃ n a len cap, ∃ xs : List α, v = .agg #[.int .i64 n, .slice a len cap] ∧ Wf .i64 n ∧ xs.length = len ∧ len ≤ cap ∧ Kd.C d w a len xs ∧ SL Q xs := by
  obtain ⟨v0, v1, y0, y1, m, rfl, _, _, h0, h1⟩ := open_agg2 hs hone hC hv h
  obtain ⟨n, hn, _, hw⟩ := DataW.trod_int u0 h0
  obtain ⟨A, len, cap, xs, hcs, hl, hc, hx, hq⟩ := trod_C hd u1 hsz hel h1
  simp at hn hcs
  subst hn; subst hcs
  exact ⟨n, A, len, cap, xs, rfl, hw, hl, hc, hx, hq⟩
end
end Go.Proofs.Ytlohemdlahafcaa.Cf
end

section
namespace Go.Proofs.Ytlohemdlahafcaa.Cf
theorem and2 {a b : Bool} (h : a = true) (k : b = true) : (a && b) = true := by rw [h, k]; rfl
theorem iniS : Try.prog.initOrder.toList = ['h', 'a', 'r', 'n', 'e', 's', 's', ' ', '3', 'a', '9', 'c', '1', 'a', '6', '3', '1', '5', '3', 'f', '0', 'a', 'b', '0', 'd', 'b', '0', 'f', 'd', '0', 'd', 'e', 'd', '9', '0', '9', 'f', '1', '6', '6', '1', '3', '1', 'a', '7', '2', '4', '2', '1', 'c', '9', 'd', '6', '3', 'e', '5', '2', '8', '7', '8', '0', '4', '1', '0', '7', 'a', 'f', 'e', '5', '7', '7', '4', ' ', 'c', 'u', 't', ' ', 'a', 't', ' ', 'l', 'o', 'o', 'p', '.', 'e', 'x', 'a', 'm', 'p', 'l', 'e', '/', 'g', '0', '0', '8', '4', '1', '/', 'l', 'a', 'w', 's', '.', 'F', 'n', 'E', 'x', 'a', 'c', 't', 'G', 'r', 'o', 'u', 'p', 'F', 'a', 'c', 't', 'o', 'r', 's', ' ', 'l', 'o', 'o', 'p', '.', 'e', 'x', 'a', 'm', 'p', 'l', 'e', '/', 'g', '0', '0', '8', '4', '1', '/', 'l', 'a', 'w', 's', '.', 'F', 'n', 'E', 'x', 'a', 'c', 't', 'I', 's', 'C', 'y', 'c', 'l', 'i', 'c', ' ', 'l', 'o', 'o', 'p', '.', 'e', 'x', 'a', 'm', 'p', 'l', 'e', '/', 'g', '0', '0', '8', '4', '1', '/', 'l', 'a', 'w', 's', '.', 'F', 'n', 'O', 'r', 'd', 'e', 'r', 's', ' ', 'l', 'o', 'o', 'p', '.', 'e', 'x', 'a', 'm', 'p', 'l', 'e', '/', 'g', '0', '0', '8', '4', '1', '/', 'l', 'a', 'w', 's', '.', 'F', 'n', 'E', 'x', 'a', 'c', 't', 'I', 's', 'B', 'r', 'i', 'd', 'g', 'e', ' ', 'l', 'o', 'o', 'p', '.', 'e', 'x', 'a', 'm', 'p', 'l', 'e', '/', 'g', '0', '0', '8', '4', '1', '/', 'l', 'a', 'w', 's', '.', 'F', 'n', 'E', 'x', 'a', 'c', 't', 'B', 'r', 'i', 'd', 'g', 'e', 's', 'O', 'f', ' ', 'l', 'o', 'o', 'p', '.', 'e', 'x', 'a', 'm', 'p', 'l', 'e', '/', 'g', '0', '0', '8', '4', '1', '/', 'l', 'a', 'w', 's', '.', 'F', 'n', 'E', 'x', 'a', 'c', 't', 'R', 'o', 'w', 'O', 'f', 'O', 'n', 'e'] := by
  have h : Try.prog.initOrder = String.ofList ['h', 'a', 'r', 'n', 'e', 's', 's', ' ', '3', 'a', '9', 'c', '1', 'a', '6', '3', '1', '5', '3', 'f', '0', 'a', 'b', '0', 'd', 'b', '0', 'f', 'd', '0', 'd', 'e', 'd', '9', '0', '9', 'f', '1', '6', '6', '1', '3', '1', 'a', '7', '2', '4', '2', '1', 'c', '9', 'd', '6', '3', 'e', '5', '2', '8', '7', '8', '0', '4', '1', '0', '7', 'a', 'f', 'e', '5', '7', '7', '4', ' ', 'c', 'u', 't', ' ', 'a', 't', ' ', 'l', 'o', 'o', 'p', '.', 'e', 'x', 'a', 'm', 'p', 'l', 'e', '/', 'g', '0', '0', '8', '4', '1', '/', 'l', 'a', 'w', 's', '.', 'F', 'n', 'E', 'x', 'a', 'c', 't', 'G', 'r', 'o', 'u', 'p', 'F', 'a', 'c', 't', 'o', 'r', 's', ' ', 'l', 'o', 'o', 'p', '.', 'e', 'x', 'a', 'm', 'p', 'l', 'e', '/', 'g', '0', '0', '8', '4', '1', '/', 'l', 'a', 'w', 's', '.', 'F', 'n', 'E', 'x', 'a', 'c', 't', 'I', 's', 'C', 'y', 'c', 'l', 'i', 'c', ' ', 'l', 'o', 'o', 'p', '.', 'e', 'x', 'a', 'm', 'p', 'l', 'e', '/', 'g', '0', '0', '8', '4', '1', '/', 'l', 'a', 'w', 's', '.', 'F', 'n', 'O', 'r', 'd', 'e', 'r', 's', ' ', 'l', 'o', 'o', 'p', '.', 'e', 'x', 'a', 'm', 'p', 'l', 'e', '/', 'g', '0', '0', '8', '4', '1', '/', 'l', 'a', 'w', 's', '.', 'F', 'n', 'E', 'x', 'a', 'c', 't', 'I', 's', 'B', 'r', 'i', 'd', 'g', 'e', ' ', 'l', 'o', 'o', 'p', '.', 'e', 'x', 'a', 'm', 'p', 'l', 'e', '/', 'g', '0', '0', '8', '4', '1', '/', 'l', 'a', 'w', 's', '.', 'F', 'n', 'E', 'x', 'a', 'c', 't', 'B', 'r', 'i', 'd', 'g', 'e', 's', 'O', 'f', ' ', 'l', 'o', 'o', 'p', '.', 'e', 'x', 'a', 'm', 'p', 'l', 'e', '/', 'g', '0', '0', '8', '4', '1', '/', 'l', 'a', 'w', 's', '.', 'F', 'n', 'E', 'x', 'a', 'c', 't', 'R', 'o', 'w', 'O', 'f', 'O', 'n', 'e'] := by kernel_rfl
  exact (congrArg String.toList h).trans String.toList_ofList
theorem iniW : behindMainWord (wordsSigns Try.prog.initOrder.toList) = [['c', 'u', 't'], ['a', 't'], ['l', 'o', 'o', 'p', '.', 'e', 'x', 'a', 'm', 'p', 'l', 'e', '/', 'g', '0', '0', '8', '4', '1', '/', 'l', 'a', 'w', 's', '.', 'F', 'n', 'E', 'x', 'a', 'c', 't', 'G', 'r', 'o', 'u', 'p', 'F', 'a', 'c', 't', 'o', 'r', 's'], ['l', 'o', 'o', 'p', '.', 'e', 'x', 'a', 'm', 'p', 'l', 'e', '/', 'g', '0', '0', '8', '4', '1', '/', 'l', 'a', 'w', 's', '.', 'F', 'n', 'E', 'x', 'a', 'c', 't', 'I', 's', 'C', 'y', 'c', 'l', 'i', 'c'], ['l', 'o', 'o', 'p', '.', 'e', 'x', 'a', 'm', 'p', 'l', 'e', '/', 'g', '0', '0', '8', '4', '1', '/', 'l', 'a', 'w', 's', '.', 'F', 'n', 'O', 'r', 'd', 'e', 'r', 's'], ['l', 'o', 'o', 'p', '.', 'e', 'x', 'a', 'm', 'p', 'l', 'e', '/', 'g', '0', '0', '8', '4', '1', '/', 'l', 'a', 'w', 's', '.', 'F', 'n', 'E', 'x', 'a', 'c', 't', 'I', 's', 'B', 'r', 'i', 'd', 'g', 'e'], ['l', 'o', 'o', 'p', '.', 'e', 'x', 'a', 'm', 'p', 'l', 'e', '/', 'g', '0', '0', '8', '4', '1', '/', 'l', 'a', 'w', 's', '.', 'F', 'n', 'E', 'x', 'a', 'c', 't', 'B', 'r', 'i', 'd', 'g', 'e', 's', 'O', 'f'], ['l', 'o', 'o', 'p', '.', 'e', 'x', 'a', 'm', 'p', 'l', 'e', '/', 'g', '0', '0', '8', '4', '1', '/', 'l', 'a', 'w', 's', '.', 'F', 'n', 'E', 'x', 'a', 'c', 't', 'R', 'o', 'w', 'O', 'f', 'O', 'n', 'e']] := (congrArg (fun x => behindMainWord (wordsSigns x)) iniS).trans (by kernel_rfl)
theorem mk_cut {P : Program} {r : List (List Char)} (h : behindMainWord (wordsSigns P.initOrder.toList) = ['c', 'u', 't'] :: r) : P.make = some .cut := by
  unfold Program.make
  rw [h]
  rfl
theorem lf_cut {P : Program} {r : List (List Char)} (h : behindMainWord (wordsSigns P.initOrder.toList) = ['c', 'u', 't'] :: r) (k : (stripLifts liftWords (['c', 'u', 't'] :: r)).1 = []) : P.liftsFinal = false := by
  unfold Program.liftsFinal Program.headLifts
  rw [h]
  simp [k]
theorem en_cut {P : Program} {r : List (List Char)} (h : behindMainWord (wordsSigns P.initOrder.toList) = ['c', 'u', 't'] :: r) (k1 : (stripLifts liftWords (['c', 'u', 't'] :: r)).1 = []) (k2 : ((stripLifts liftWords (['c', 'u', 't'] :: r)).2.head? == some "cut".toList) = true) (h1 : P.laysLater = false) (h2 : P.bearsReflect = false) (h3 : P.doorFits [] = true) : P.mayEnter = true := by
  unfold Program.mayEnter
  rw [h]
  simp only [k1, k2, h1, h2, h3]
  simp
theorem make : Try.prog.make = some .cut := mk_cut iniW
theorem lifted : Try.prog.liftsFinal = false := lf_cut iniW (by kernel_rfl)
theorem enter : Try.prog.mayEnter = true := en_cut iniW (by kernel_rfl) (by kernel_rfl) (by kernel_rfl) (by kernel_rfl) (by kernel_rfl)
end Go.Proofs.Ytlohemdlahafcaa.Cf
end

